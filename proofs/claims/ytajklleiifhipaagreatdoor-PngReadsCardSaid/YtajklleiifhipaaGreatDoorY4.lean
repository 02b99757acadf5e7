/- Texts of the claim, laid together: SymW, DfM, DfT, PfM. -/
import Derived.Laws.DeepNot64
import Derived.Test.YtajklleiifhipaaGreatDoorY0
import Derived.Test.YtajklleiifhipaaGreatDoorY3
set_option linter.unusedSimpArgs false
set_option linter.unusedVariables false
namespace Go.Proofs.YtajklleiifhipaaGreatDoor.Sym
open Go.RowKit Go.Conc.Locks Go.MuLone
section
variable {P : Program} {ops : Array Oper} {Q : Exit → Act → World → Prop} {Qn Lq : Act → Prop} {s : St} {env : Env} {w0 w w' : World} {S : Nat → Prop} {rs : List Rg} {rest : List Oper}
variable {d : Nat} {ty : TypeId} {pos : String} {aft : Array Edge}
theorem E.make0M {α : Type} {enc : α → Value} {t e : TypeId} {by_ : Nat} {x y : Operand} {n : Nat} (z : α) (hM : M w0 S w rs) (hx : ev env x = some (.int .i64 0)) (hy : ev env y = some (.int .i64 (n : Int))) (ht : P.underlying t = some (.slice e)) (hz : (P.info? e).map (fun i => (i.zero, i.size, i.bytes)) = some (some (enc z), 1, by_)) (hc : (enc z).cells = #[enc z])
    (hby : by_ * n ≤ 281474976710656) (hn : n ≤ 9223372036854775807) (hd : Nat.blt d s.n = true)
    (h : ∀ v w', M w0 S w' (rs ++ [Rg.sl enc e v []]) → wpE P ops Q s rest ((d, v) :: env) w') : wpE P ops Q s (⟨some d, .makeSlice t x y, ty, pos, aft, none⟩ :: rest) env w := by
  cases hq : P.info? e with
  | none => simp [hq] at hz
  | some i =>
    simp only [hq, Option.map_some, Option.some.injEq, Prod.mk.injEq] at hz
    obtain ⟨h1, h2, h3⟩ := hz
    have hb' : (i.bytes : Int) * (n : Int) ≤ 281474976710656 := by rw [h3, ← Int.natCast_mul]; omega
    have hr' : (Instr.makeSlice t (.int .i64 0) (.int .i64 (n : Int))).run P w = .ok (.slice (some ⟨w.heap.size, 0, none⟩) 0 n) (w.alloc (.cells (madeCells (enc z).cells (n * i.size)) e)) := by
      have := run_make (P := P) w t e i (enc z) ht hq h1 .i64 .i64 0 (n : Int) (by omega) (by omega) hb' (by omega)
      simpa using this
    rw [hc, h2] at hr'
    refine E.op (v := .slice (some ⟨w.heap.size, 0, none⟩) 0 n) (w' := w.alloc (.cells (madeCells #[enc z] (n * 1)) e)) (fun a ha => ?_) hd (h _ _ (hM.new (Ext.new w _) ?_ ?_))
    · simp only [execOp, ha.ev hx, ha.ev hy]
      rw [Sem.run_bind, hr']; rfl
    · exact ⟨by simp, .inr ⟨w.heap.size, n, madeCells #[enc z] (n * 1), by simp, Nat.zero_le _, heap_alloc_new w _, by simp, by unfold maxLen; omega, by simp [madeCells], by simp⟩⟩
    intro k hk; cases hk; exact Nat.le_refl _
end
section
variable {w0 w w' : World} {S : Nat → Prop} {rs : List Rg} {r q p : Rg}
def Rg.emp : Rg := ⟨fun _ => False, fun _ => True, fun _ h => h, fun _ _ h => h.elim⟩
theorem M.join (h : M w0 S w rs) (i j : Nat) (hne : i ≠ j) (hi : rs[i]? = some r) (hj : rs[j]? = some q) (hp : p.ok w) (hf : ∀ k, p.fp k → r.fp k ∨ q.fp k) : M w0 S w ((rs.set j Rg.emp).set i p) := by
  have hli : i < rs.length := (List.getElem?_eq_some_iff.1 hi).1
  have hlj : j < rs.length := (List.getElem?_eq_some_iff.1 hj).1
  have at_ : ∀ a x, ((rs.set j Rg.emp).set i p)[a]? = some x → (a = i ∧ x = p) ∨ (a = j ∧ x = Rg.emp) ∨ (a ≠ i ∧ a ≠ j ∧ rs[a]? = some x) := fun a x hx => by
    by_cases e : i = a
    · subst e; rw [List.getElem?_set_self (by simpa using hli)] at hx; exact .inl ⟨rfl, (Option.some.inj hx).symm⟩
    rw [List.getElem?_set_ne e] at hx
    by_cases e2 : j = a
    · subst e2; rw [List.getElem?_set_self hlj] at hx; exact .inr (.inl ⟨rfl, (Option.some.inj hx).symm⟩)
    rw [List.getElem?_set_ne e2] at hx; exact .inr (.inr ⟨fun h => e h.symm, fun h => e2 h.symm, hx⟩)
  refine ⟨⟨fun a x hx => ?_, fun a b x y ha hb hab k hk hk' => ?_⟩, fun a x hx k hk => ?_, h.fr⟩
  · rcases at_ a x hx with ⟨_, rfl⟩ | ⟨_, rfl⟩ | ⟨_, _, hx⟩
    · exact hp
    · trivial
    exact h.ok hx
  · rcases at_ a x ha with ⟨ea, ex⟩ | ⟨ea, ex⟩ | ⟨na, na', ha⟩
    · rcases at_ b y hb with ⟨eb, ey⟩ | ⟨eb, ey⟩ | ⟨nb, nb', hb⟩
      · exact hab (ea.trans eb.symm)
      · rw [ey] at hk'; exact hk'
      rw [ex] at hk
      rcases hf k hk with h1 | h1
      · exact h.sep.apart i b r y hi hb (fun e => nb e.symm) k h1 hk'
      exact h.sep.apart j b q y hj hb (fun e => nb' e.symm) k h1 hk'
    · rw [ex] at hk; exact hk
    rcases at_ b y hb with ⟨eb, ey⟩ | ⟨eb, ey⟩ | ⟨nb, nb', hb⟩
    · rw [ey] at hk'
      rcases hf k hk' with h1 | h1
      · exact h.sep.apart a i x r ha hi na k hk h1
      exact h.sep.apart a j x q ha hj na' k hk h1
    · rw [ey] at hk'; exact hk'
    exact h.sep.apart a b x y ha hb hab k hk hk'
  rcases at_ a x hx with ⟨_, e⟩ | ⟨_, e⟩ | ⟨_, _, hx⟩
  · rw [e] at hk
    rcases hf k hk with h1 | h1
    · exact h.mine i r hi k h1
    exact h.mine j q hj k h1
  · rw [e] at hk; exact hk.elim
  exact h.mine a x hx k hk
theorem Sep.one (h : r.ok w) : Sep w [r] := ⟨fun i q hi => by
  cases i with
  | zero => have : r = q := by simpa using hi
            exact this ▸ h
  | succ i => simp at hi, fun i j p q hi hj hne => by
  have := (List.getElem?_eq_some_iff.1 hi).1; have := (List.getElem?_eq_some_iff.1 hj).1; simp at *; omega⟩
theorem M.sep1 (h : M w0 S w rs) (i : Nat) (hi : rs[i]? = some r) : Sep w [r] := Sep.one (h.ok hi)
theorem M.call1 {outs : List Rg} (h : M w0 S w rs) (i : Nat) (hi : rs[i]? = some r) (hl : 1 ≤ outs.length) (k : M w (fpU [r]) w' outs) : M w0 S w' (repl rs [i] outs) :=
 h.callM [i] (by simp) (by simp [hi]) rfl hl k
theorem fp1 {k : Nat} : fpU [r] k ↔ r.fp k := by
  constructor
  · rintro ⟨i, q, hi, hq⟩
    cases i with
    | zero => have : r = q := by simpa using hi
              exact this ▸ hq
    | succ i => simp at hi
  intro h; exact ⟨0, r, rfl, h⟩
theorem M.calls {outs : List Rg} (h : M w0 S w rs) (is : List Nat) (hn : is.Nodup) (hlen : is.length = (is.filterMap (rs[·]?)).length) (hl : is.length ≤ outs.length) (k : M w (fpU (is.filterMap (rs[·]?))) w' outs) : M w0 S w' (repl rs is outs) := h.callM is hn rfl hlen hl k
end
abbrev Hd := Option Addr × Nat × Nat
abbrev slv (x : Hd) : Value := .slice x.1 x.2.1 x.2.2
def Bag (w : World) (hs : List Hd) (ls : List (List UInt8)) : Prop := hs.length = ls.length ∧ ∀ (i : Nat) h l, hs[i]? = some h → ls[i]? = some l → RdL u8 w (slv h) l
theorem Bag.ext {w w' : World} {hs : List Hd} {ls : List (List UInt8)} (h : Bag w hs ls) (k : Ext w w') : Bag w' hs ls := ⟨h.1, fun i x l hx hl => (h.2 i x l hx hl).ext k⟩
theorem Bag.at {w : World} {hs : List Hd} {ls : List (List UInt8)} (h : Bag w hs ls) {i : Nat} (hi : i < ls.length) : RdL u8 w (slv (hs[i]'(by rw [h.1]; exact hi))) ls[i] := h.2 i _ _ (List.getElem?_eq_getElem _) (List.getElem?_eq_getElem _)
theorem Bag.nil (w : World) : Bag w [] [] := ⟨rfl, fun i h l hh => by simp at hh⟩
theorem Bag.push {w : World} {hs : List Hd} {ls : List (List UInt8)} {x : Hd} {l : List UInt8} (h : Bag w hs ls) (hx : RdL u8 w (slv x) l) : Bag w (hs ++ [x]) (ls ++ [l]) := by
 refine ⟨by simp [h.1], fun i y m hy hm => ?_⟩
 rcases getElem?_app hy with ⟨h1, h2⟩ | ⟨h1, h2⟩ <;> rcases getElem?_app hm with ⟨k1, k2⟩ | ⟨k1, k2⟩
 · exact h.2 i y m h2 k2
 · rw [h.1] at h1; omega
 · rw [h.1] at h1; omega
 rw [h.1] at h2
 have e : i - ls.length = 0 := by have := (List.getElem?_eq_some_iff.1 k2).1; simp at this; omega
 rw [e] at h2 k2
 simp at h2 k2
 rw [← h2, ← k2]; exact hx
def Rg.bag (hs : List Hd) (ls : List (List UInt8)) : Rg where
 fp k := ∃ (i : Nat) (h : Hd) (l : List UInt8), hs[i]? = some h ∧ ls[i]? = some l ∧ l ≠ [] ∧ k = (bs (slv h)).1
 ok w := Bag w hs ls
 keep {w w'} hk h := ⟨h.1, fun i x l hx hl => by
  have hr := h.2 i x l hx hl
  cases l with
  | nil => exact Rd.nil_other hr
  | cons c l => exact (Rg.rd 1 (slv x) (c :: l).length ((c :: l).map u8)).keep (fun k hfp => hk k ⟨i, x, c :: l, hx, hl, by simp, hfp.2⟩) hr⟩
 live {w} h k hk := by
  obtain ⟨i, x, l, hx, hl, hne, rfl⟩ := hk
  exact (h.2 i x l hx hl).lt (by cases l with | nil => exact (hne rfl).elim | cons _ _ => simp)
section
variable {w0 w w' : World} {S : Nat → Prop} {rs : List Rg}
theorem M.bag {hs : List Hd} {ls : List (List UInt8)} (h : M w0 S w rs) (i : Nat) (hi : rs[i]? = some (Rg.bag hs ls)) : Bag w hs ls := h.ok hi
theorem M.bagNil (h : M w0 S w rs) : M w0 S w (rs ++ [Rg.bag [] []]) := h.new (Ext.refl w) (Bag.nil w) (fun k ⟨i, x, l, hx, _⟩ => by simp at hx)
theorem own_head {e : TypeId} {v : Value} {l : List UInt8} (h : OwnL u8 w 0 e v l) : ∃ x : Hd, v = slv x := by
 rcases h.2 with ⟨rfl, _⟩ | ⟨g, cap, cur, rfl, _⟩
 · exact ⟨(none, 0, 0), rfl⟩
 exact ⟨(_, _, _), rfl⟩
theorem M.bagPush {hs : List Hd} {ls : List (List UInt8)} {e : TypeId} {x : Hd} {l : List UInt8} (h : M w0 S w rs) (i j : Nat) (hne : i ≠ j) (hi : rs[i]? = some (Rg.bag hs ls)) (hj : rs[j]? = some (Rg.sl u8 e (slv x) l)) : M w0 S w ((rs.set j Rg.emp).set i (Rg.bag (hs ++ [x]) (ls ++ [l]))) := by
 have hb := h.bag i hi
 refine h.join i j hne hi hj (p := Rg.bag (hs ++ [x]) (ls ++ [l])) (hb.push (h.sl j hj)) fun k ⟨a, y, m, hy, hm, hmn, hk⟩ => ?_
 rcases getElem?_app hy with ⟨h1, h2⟩ | ⟨h1, h2⟩ <;> rcases getElem?_app hm with ⟨k1, k2⟩ | ⟨k1, k2⟩
 · exact .inl ⟨a, y, m, h2, k2, hmn, hk⟩
 · rw [hb.1] at h1; omega
 · rw [hb.1] at h1; omega
 right
 rw [hb.1] at h2
 have e0 : a - ls.length = 0 := by have := (List.getElem?_eq_some_iff.1 k2).1; simp at this; omega
 rw [e0] at h2 k2
 simp at h2 k2
 subst h2 k2
 have ho := h.own j hj
 rcases ho.2 with ⟨_, h3⟩ | ⟨g, cap, cur, hv, _⟩
 · exact (hmn (List.length_eq_zero_iff.1 h3)).elim
 show (slv x).ownBlock = some k
 rw [hk, hv]; rfl
end
def partV (v : Value) (a b : Nat) : Value := match v with
 | .slice c _ cap => .slice (if cap = a then c else c.map (·.add (a * 1))) (b - a) (cap - a)
 | v => v
theorem Rd.partP {w : World} {v : Value} {sz n : Nat} {cs : List Value} {a b : Nat} (h : Rd w sz v n cs) (h1 : a ≤ b) (h2 : b ≤ n) : Part 1 v (partV v a b) a b := by
 obtain ⟨c, cap, hv, _⟩ := h
 subst hv
 exact ⟨c, n, cap, rfl, h1, h2, rfl⟩
theorem RdL.partV {α : Type} {enc : α → Value} {w : World} {v : Value} {l : List α} {a b : Nat} (h : RdL enc w v l) (h1 : a ≤ b) (h2 : b ≤ l.length) : RdL enc w (partV v a b) (cutL a b l) := h.part (Rd.partP h h1 h2)
section
variable {P : Program} {ops : Array Oper} {Q : Exit → Act → World → Prop} {Qn Lq : Act → Prop} {s : St} {env : Env} {w0 w w' : World} {S : Nat → Prop} {rs : List Rg} {rest : List Oper}
variable {d : Nat} {ty : TypeId} {pos : String} {aft : Array Edge}
theorem run_slcP {α : Type} {enc : α → Value} {l : List α} {t e : TypeId} {x : Operand} {lo hi : Option Operand} {v : Value} {k k' : IntKind} (a b : Nat) (hx : ev env x = some v)
    (hlo : lo.map (ev env) = some (some (.int k (a : Int))) ∨ (lo = none ∧ a = 0)) (hhi : hi.map (ev env) = some (some (.int k' (b : Int))) ∨ (hi = none ∧ b = l.length)) (hR : RdL enc w v l)
    (ht : P.underlying t = some (.slice e)) (hs : (P.info? e).map (·.size) = some 1) (hl : a ≤ b) (hh : b ≤ l.length) (a' : Act) (ha : Sat s a' env) (dst : Option Nat) : (execOp a'.eval ⟨dst, .slice t x lo hi none, ty, pos, aft, none⟩).run P w = .ok (.value (partV v a b)) w := by
  obtain ⟨c, cap, hv, hc, _⟩ := hR
  subst hv
  have h1 : lo.map a'.eval = some (.int k (a : Int)) ∨ (lo.map a'.eval = none ∧ a = 0) := by
    rcases hlo with hlo | ⟨rfl, h0⟩
    · cases lo with
      | none => simp at hlo
      | some y => simp at hlo; left; simp [ha.ev hlo]
    right; exact ⟨rfl, h0⟩
  have h2 : hi.map a'.eval = some (.int k' (b : Int)) ∨ (hi.map a'.eval = none ∧ b = l.length) := by
    rcases hhi with hhi | ⟨rfl, h0⟩
    · cases hi with
      | none => simp at hhi
      | some y => simp at hhi; left; simp [ha.ev hhi]
    right; exact ⟨rfl, h0⟩
  have := run_slice (P := P) (w := w) (a := c) ht hs h1 h2 hl hh hc
  simp [execOp, ha.ev hx, this, partV]
theorem E.slcP {α : Type} {enc : α → Value} {l : List α} {t e : TypeId} {x : Operand} {lo hi : Option Operand} {v : Value} {k k' : IntKind} (a b : Nat) (hx : ev env x = some v)
  (hlo : lo.map (ev env) = some (some (.int k (a : Int))) ∨ (lo = none ∧ a = 0)) (hhi : hi.map (ev env) = some (some (.int k' (b : Int))) ∨ (hi = none ∧ b = l.length)) (hR : RdL enc w v l)
  (ht : P.underlying t = some (.slice e)) (hs : (P.info? e).map (·.size) = some 1) (hl : a ≤ b) (hh : b ≤ l.length) (hd : Nat.blt d s.n = true)
  (h : wpE P ops Q s rest ((d, partV v a b) :: env) w) : wpE P ops Q s (⟨some d, .slice t x lo hi none, ty, pos, aft, none⟩ :: rest) env w :=
 E.op (fun a' ha => run_slcP a b hx hlo hhi hR ht hs hl hh a' ha _) hd h
theorem Q.slcP {α : Type} {enc : α → Value} {l : List α} {t e : TypeId} {x : Operand} {lo hi : Option Operand} {v : Value} {k k' : IntKind} (a b : Nat) (hx : ev env x = some v)
  (hlo : lo.map (ev env) = some (some (.int k (a : Int))) ∨ (lo = none ∧ a = 0)) (hhi : hi.map (ev env) = some (some (.int k' (b : Int))) ∨ (hi = none ∧ b = l.length)) (hR : RdL enc w v l)
  (ht : P.underlying t = some (.slice e)) (hs : (P.info? e).map (·.size) = some 1) (hl : a ≤ b) (hh : b ≤ l.length) (hd : Nat.blt d s.n = true)
  (h : wpQ P ops w Qn s rest ((d, partV v a b) :: env)) : wpQ P ops w Qn s (⟨some d, .slice t x lo hi none, ty, pos, aft, none⟩ :: rest) env :=
 Q.op (fun w' hw' a' ha => run_slcP a b hx hlo hhi (hR.ext hw') ht hs hl hh a' ha _) hd h
theorem Y.slcP {α : Type} {enc : α → Value} {l : List α} {t e : TypeId} {x : Operand} {lo hi : Option Operand} {v : Value} {k k' : IntKind} (a b : Nat) (hx : ev env x = some v)
  (hlo : lo.map (ev env) = some (some (.int k (a : Int))) ∨ (lo = none ∧ a = 0)) (hhi : hi.map (ev env) = some (some (.int k' (b : Int))) ∨ (hi = none ∧ b = l.length)) (hR : RdL enc w v l)
  (ht : P.underlying t = some (.slice e)) (hs : (P.info? e).map (·.size) = some 1) (hl : a ≤ b) (hh : b ≤ l.length) : Yld P ops s env w ⟨some d, .slice t x lo hi none, ty, pos, aft, none⟩ (partV v a b) :=
 Yld.of (fun a' ha => run_slcP a b hx hlo hhi hR ht hs hl hh a' ha _)
end
end Go.Proofs.YtajklleiifhipaaGreatDoor.Sym
namespace Go.Proofs.YtajklleiifhipaaGreatDoor
open Sym
namespace Df
def bv (f : Nat → Bool) : Nat → Nat
 | 0 => 0
 | n + 1 => bv f n + if f n then 2 ^ n else 0
theorem bv_lt (f : Nat → Bool) (n : Nat) : bv f n < 2 ^ n := by
 induction n with
 | zero => simp [bv]
 | succ n ih => rw [bv, Nat.pow_succ]; split <;> omega
theorem bv_congr {f g : Nat → Bool} {n : Nat} (h : ∀ i, i < n → f i = g i) : bv f n = bv g n := by
 induction n with
 | zero => rfl
 | succ n ih => rw [bv, bv, ih (fun i hi => h i (by omega)), h n (by omega)]
theorem bv_off {f : Nat → Bool} {n m : Nat} (h : n ≤ m) (hf : ∀ i, n ≤ i → i < m → f i = false) : bv f m = bv f n := by
  induction m with
  | zero => obtain rfl : n = 0 := by omega
            rfl
  | succ m ih =>
    by_cases e : n = m + 1
    · subst e; rfl
    rw [bv, ih (by omega) (fun i h1 h2 => hf i h1 (by omega)), hf m (by omega) (by omega)]; simp
def bit (v i : Nat) : Bool := decide (v / 2 ^ i % 2 = 1)
theorem bit_ite (v i : Nat) : (if bit v i then 2 ^ i else 0) = v / 2 ^ i % 2 * 2 ^ i := by
 unfold bit
 by_cases h : v / 2 ^ i % 2 = 1
 · rw [if_pos (decide_eq_true h), h, Nat.one_mul]
 have : v / 2 ^ i % 2 = 0 := by omega
 rw [if_neg (by rw [decide_eq_true_eq]; exact h), this, Nat.zero_mul]
theorem bv_bit (v n : Nat) : bv (bit v) n = v % 2 ^ n := by
 induction n with
 | zero => simp [bv, Nat.mod_one]
 | succ n ih =>
  rw [bv, ih, bit_ite, Nat.pow_succ, Nat.mod_mul]
  rw [Nat.mul_comm (v / 2 ^ n % 2)]
theorem bit_bv {f : Nat → Bool} : ∀ {n i : Nat}, i < n → bit (bv f n) i = f i := by
  intro n
  induction n with
  | zero => intro i h; omega
  | succ n ih =>
    intro i hi
    have hlt := bv_lt f n
    by_cases e : i = n
    · subst e
      unfold bit
      rw [bv]
      by_cases h : f i = true
      · rw [if_pos h, Nat.add_div_right _ (Nat.pow_pos (by decide)), Nat.div_eq_of_lt hlt, h]; rfl
      rw [if_neg h, Nat.add_zero, Nat.div_eq_of_lt hlt, Bool.eq_false_iff.2 h]; rfl
    rw [← ih (show i < n by omega)]
    unfold bit
    rw [bv]
    split
    · have : bv f n + 2 ^ n = bv f n + 2 ^ i * (2 * 2 ^ (n - i - 1)) := by
        rw [← Nat.pow_succ', ← Nat.pow_add]; congr 2; omega
      rw [this, Nat.add_mul_div_left _ _ (Nat.pow_pos (by decide)), Nat.add_mul_mod_self_left]
    rfl
def low (v n : Nat) : List Bool := tab n (bit v)
theorem low_len (v n : Nat) : (low v n).length = n := tab_len _ _
theorem low_succ (v n : Nat) : low v (n + 1) = low v n ++ [bit v n] := tab_succ _ _
def pb (B : List Bool) (k : Nat) : Nat := bv (fun i => B.getD (8 * k + i) false) 8
theorem pb_lt (B : List Bool) (k : Nat) : pb B k < 256 := bv_lt _ 8
def pk (B : List Bool) : List UInt8 := tab ((B.length + 7) / 8) fun k => UInt8.ofNat (pb B k)
theorem pk_len (B : List Bool) : (pk B).length = (B.length + 7) / 8 := tab_len _ _
def pkx (B : List Bool) : List UInt8 := tab (B.length / 8 + 1) fun k => UInt8.ofNat (pb B k)
theorem pkx_len (B : List Bool) : (pkx B).length = B.length / 8 + 1 := tab_len _ _
theorem pb_r (B : List Bool) : pb B (B.length / 8) < 2 ^ (B.length % 8) := by
 unfold pb
 rw [bv_off (n := B.length % 8) (by omega) (fun i h1 h2 => by rw [List.getD_eq_getElem?_getD, List.getElem?_eq_none (by omega)]; rfl)]
 exact bv_lt _ _
theorem pkx_new {B : List Bool} (h : B.length % 8 = 0) : pk B ++ [0] = pkx B := by
 have hr := pb_r B
 rw [h, Nat.pow_zero] at hr
 have h0 : pb B (B.length / 8) = 0 := by omega
 unfold pk pkx
 rw [tab_succ, show (B.length + 7) / 8 = B.length / 8 by omega, h0]; rfl
theorem pkx_old {B : List Bool} (h : ¬ B.length % 8 = 0) : pk B = pkx B := by
 unfold pk pkx
 rw [show (B.length + 7) / 8 = B.length / 8 + 1 by omega]
theorem pkx_get {B : List Bool} (h : B.length / 8 < (pkx B).length) : ((pkx B)[B.length / 8]).toNat = pb B (B.length / 8) := by
 have h1 : (pkx B)[B.length / 8]? = some (UInt8.ofNat (pb B (B.length / 8))) := tab_get (by omega)
 rw [List.getElem?_eq_getElem h, Option.some.injEq] at h1
 rw [h1]
 have := pb_lt B (B.length / 8)
 simp; omega
theorem getD_snoc (B : List Bool) (x : Bool) (i : Nat) : (B ++ [x]).getD i false = if i = B.length then x else B.getD i false := by
 rw [List.getD_eq_getElem?_getD, List.getD_eq_getElem?_getD]
 by_cases h : i < B.length
 · rw [List.getElem?_append_left h, if_neg (by omega)]
 rw [List.getElem?_append_right (by omega)]
 by_cases e : i = B.length
 · subst e; simp
 rw [if_neg e, List.getElem?_eq_none (by simp; omega), List.getElem?_eq_none (by omega)]
theorem pb_snoc_lo {B : List Bool} {x : Bool} {k : Nat} (h : k < B.length / 8) : pb (B ++ [x]) k = pb B k := by
 unfold pb
 refine bv_congr fun i hi => ?_
 rw [getD_snoc, if_neg (by omega)]
theorem pb_snoc {B : List Bool} {x : Bool} : pb (B ++ [x]) (B.length / 8) = pb B (B.length / 8) + if x then 2 ^ (B.length % 8) else 0 := by
 have hd : 8 * (B.length / 8) + B.length % 8 = B.length := Nat.div_add_mod B.length 8
 unfold pb
 rw [bv_off (n := B.length % 8 + 1) (m := 8) (by omega) (fun i h1 h2 => by rw [getD_snoc, if_neg (by omega), List.getD_eq_getElem?_getD, List.getElem?_eq_none (by omega)]; rfl)]
 rw [bv_off (f := fun i => B.getD (8 * (B.length / 8) + i) false) (n := B.length % 8) (m := 8) (by omega) (fun i h1 h2 => by rw [List.getD_eq_getElem?_getD, List.getElem?_eq_none (by omega)]; rfl)]
 rw [bv, getD_snoc, if_pos hd]
 congr 1
 refine bv_congr fun i hi => ?_
 rw [getD_snoc, if_neg (by omega)]
theorem pkx_put (B : List Bool) (x : Bool) : (pkx B).set (B.length / 8) (UInt8.ofNat (pb B (B.length / 8) + if x then 2 ^ (B.length % 8) else 0)) = pk (B ++ [x]) := by
  apply List.ext_getElem?
  intro j
  have hpl : (pk (B ++ [x])).length = B.length / 8 + 1 := by rw [pk_len, List.length_append, List.length_singleton]; omega
  by_cases hj : j < B.length / 8 + 1
  · have e1 : (pk (B ++ [x]))[j]? = some (UInt8.ofNat (pb (B ++ [x]) j)) := tab_get (by rw [List.length_append, List.length_singleton]; omega)
    rw [e1]
    by_cases e : j = B.length / 8
    · subst e; rw [List.getElem?_set_self (by rw [pkx_len]; omega), pb_snoc]
    rw [List.getElem?_set_ne (fun h => e h.symm), pb_snoc_lo (by omega)]; exact tab_get hj
  rw [List.getElem?_eq_none (by rw [List.length_set, pkx_len]; omega), List.getElem?_eq_none (by omega)]
def ub (p : List UInt8) : List Bool := tab (8 * p.length) fun j => bit (p.getD (j / 8) 0).toNat (j % 8)
theorem ub_len (p : List UInt8) : (ub p).length = 8 * p.length := tab_len _ _
theorem ub_get {p : List UInt8} {j : Nat} (h : j < 8 * p.length) : (ub p)[j]? = some (bit (p.getD (j / 8) 0).toNat (j % 8)) := tab_get h
theorem ub_getD {p : List UInt8} {j : Nat} (h : j < 8 * p.length) : (ub p).getD j false = bit (p.getD (j / 8) 0).toNat (j % 8) := by
 rw [List.getD_eq_getElem?_getD, ub_get h]; rfl
theorem ub_app (p q : List UInt8) : ub (p ++ q) = ub p ++ ub q := by
  apply List.ext_getElem?
  intro j
  by_cases h1 : j < 8 * p.length
  · rw [List.getElem?_append_left (by rw [ub_len]; exact h1), ub_get h1, ub_get (by rw [List.length_append]; omega)]
    rw [List.getD_eq_getElem?_getD, List.getElem?_append_left (by omega), ← List.getD_eq_getElem?_getD]
  rw [List.getElem?_append_right (by rw [ub_len]; omega), ub_len]
  by_cases h2 : j < 8 * (p ++ q).length
  · rw [List.length_append] at h2
    rw [ub_get (by rw [List.length_append]; omega), ub_get (by omega)]
    rw [List.getD_eq_getElem?_getD, List.getElem?_append_right (by omega), ← List.getD_eq_getElem?_getD]
    rw [show j / 8 - p.length = (j - 8 * p.length) / 8 by omega, show j % 8 = (j - 8 * p.length) % 8 by omega]
  rw [List.getElem?_eq_none (by rw [ub_len]; omega), List.getElem?_eq_none (by rw [ub_len]; rw [List.length_append] at h2; omega)]
theorem ub_pk (B : List Bool) : ub (pk B) = B ++ List.replicate (8 * ((B.length + 7) / 8) - B.length) false := by
  apply List.ext_getElem?
  intro j
  by_cases h : j < 8 * ((B.length + 7) / 8)
  · rw [ub_get (by rw [pk_len]; exact h)]
    have e : (pk B).getD (j / 8) 0 = UInt8.ofNat (pb B (j / 8)) := by
      have : (pk B)[j / 8]? = some (UInt8.ofNat (pb B (j / 8))) := tab_get (by omega)
      rw [List.getD_eq_getElem?_getD, this]; rfl
    have e2 : (UInt8.ofNat (pb B (j / 8))).toNat = pb B (j / 8) := by have := pb_lt B (j / 8); simp; omega
    rw [e, e2]
    unfold pb
    rw [bit_bv (Nat.mod_lt _ (by decide)), show 8 * (j / 8) + j % 8 = j from Nat.div_add_mod j 8]
    by_cases hB : j < B.length
    · rw [List.getElem?_append_left hB, List.getD_eq_getElem?_getD, List.getElem?_eq_getElem hB]; rfl
    rw [List.getElem?_append_right (by omega), List.getElem?_replicate, if_pos (by omega), List.getD_eq_getElem?_getD, List.getElem?_eq_none (by omega)]; rfl
  rw [List.getElem?_eq_none (by rw [ub_len, pk_len]; omega), List.getElem?_eq_none (by rw [List.length_append, List.length_replicate]; omega)]
def bs (B : List Bool) (a n : Nat) : Nat := bv (fun i => B.getD (a + i) false) n
theorem bs_succ (B : List Bool) (a n : Nat) : bs B a (n + 1) = bs B a n + if B.getD (a + n) false then 2 ^ n else 0 := rfl
theorem bs_lt (B : List Bool) (a n : Nat) : bs B a n < 2 ^ n := bv_lt _ n
theorem drop_getD {B m r : List Bool} {a i : Nat} (h : B.drop a = m ++ r) (hi : i < m.length) : B.getD (a + i) false = m.getD i false := by
 rw [List.getD_eq_getElem?_getD, ← List.getElem?_drop, h, List.getElem?_append_left hi, ← List.getD_eq_getElem?_getD]
theorem bs_low {B r : List Bool} {a v n : Nat} (h : B.drop a = low v n ++ r) (hv : v < 2 ^ n) : bs B a n = v := by
 unfold bs
 rw [bv_congr (g := bit v) (fun i hi => by
  rw [drop_getD h (by rw [low_len]; exact hi), List.getD_eq_getElem?_getD]
  have : (low v n)[i]? = some (bit v i) := tab_get hi
  rw [this]; rfl), bv_bit, Nat.mod_eq_of_lt hv]
end Df
end Go.Proofs.YtajklleiifhipaaGreatDoor
namespace Go.Proofs.YtajklleiifhipaaGreatDoor
open Sym
namespace Df
def lxt (s : Nat) : Nat := if s = 285 then 0 else if s < 265 then 0 else (s - 261) / 4
def lls (s : Nat) : Nat := if s = 285 then 258 else if s < 265 then s - 254 else 3 + (4 + (s - 261) % 4) * 2 ^ ((s - 261) / 4)
def dxt (s : Nat) : Nat := if s < 4 then 0 else s / 2 - 1
def dls (s : Nat) : Nat := if s < 4 then s + 1 else 1 + (2 + s % 2) * 2 ^ (s / 2 - 1)
def sgo (ls : Nat → Nat) (n : Nat) : Nat → Nat
 | 0 => 0
 | s + 1 => if ls (s + 1) ≤ n then s + 1 else sgo ls n s
def lsy (n : Nat) : Nat := sgo lls n 285
def dsy (n : Nat) : Nat := sgo dls n 29
theorem sgo_spec (ls : Nat → Nat) (n : Nat) : ∀ k, sgo ls n k ≤ k ∧ (ls (sgo ls n k) ≤ n ∨ sgo ls n k = 0) ∧ ∀ s, sgo ls n k < s → s ≤ k → n < ls s
 | 0 => ⟨Nat.le_refl _, .inr rfl, fun s h1 h2 => by simp [sgo] at h1; omega⟩
 | k + 1 => by
  rw [sgo]
  by_cases h : ls (k + 1) ≤ n
  · rw [if_pos h]; exact ⟨Nat.le_refl _, .inl h, fun s h1 h2 => by omega⟩
  rw [if_neg h]
  obtain ⟨h1, h2, h3⟩ := sgo_spec ls n k
  refine ⟨by omega, h2, fun s g1 g2 => ?_⟩
  by_cases e : s = k + 1
  · subst e; omega
  exact h3 s g1 (by omega)
theorem lsy_all : ∀ n, n < 259 → 3 ≤ n → 257 ≤ lsy n ∧ lsy n ≤ 285 ∧ lls (lsy n) ≤ n ∧ n < lls (lsy n) + 2 ^ lxt (lsy n) := by decide +kernel
theorem lsy_spec {n : Nat} (h1 : 3 ≤ n) (h2 : n ≤ 258) : 257 ≤ lsy n ∧ lsy n ≤ 285 ∧ lls (lsy n) ≤ n ∧ n < lls (lsy n) + 2 ^ lxt (lsy n) := lsy_all n (by omega) h1
theorem dls_next : ∀ s, s < 29 → dls (s + 1) = dls s + 2 ^ dxt s := by decide +kernel
theorem lx_bd : ∀ s, s < 286 → lxt s ≤ 5 ∧ lls s ≤ 258 := by decide +kernel
theorem dx_bd : ∀ s, s < 30 → dxt s ≤ 13 ∧ dls s ≤ 24577 ∧ 1 ≤ dls s := by decide +kernel
theorem dsy_spec {n : Nat} (h1 : 1 ≤ n) (h2 : n ≤ 32768) : dsy n ≤ 29 ∧ dls (dsy n) ≤ n ∧ n < dls (dsy n) + 2 ^ dxt (dsy n) := by
  obtain ⟨g1, g2, g3⟩ := sgo_spec dls n 29
  have g4 : dls (dsy n) ≤ n := by
    rcases g2 with g | g
    · exact g
    unfold dsy; rw [g]; exact h1
  refine ⟨g1, g4, ?_⟩
  by_cases e : dsy n = 29
  · rw [e]; have : dls 29 + 2 ^ dxt 29 = 32769 := by decide
    omega
  have hl : dsy n < 29 := by unfold dsy at e ⊢; omega
  have := g3 (dsy n + 1) (by unfold dsy; omega) (by omega)
  rw [dls_next _ hl] at this; exact this
def key (p : List UInt8) (i : Nat) : Nat := (p.getD i 0).toNat * 65536 + (p.getD (i + 1) 0).toNat * 256 + (p.getD (i + 2) 0).toNat
def ego (p : List UInt8) (j i : Nat) : Nat → Nat → Nat
 | 0, n => n
 | f + 1, n => if i + n < p.length ∧ p.getD (j + n) 0 = p.getD (i + n) 0 then ego p j i f (n + 1) else n
def eqn (p : List UInt8) (j i : Nat) : Nat := ego p j i 258 0
theorem ego_spec {p : List UInt8} {j i : Nat} : ∀ (f n : Nat), n ≤ ego p j i f n ∧ ego p j i f n ≤ n + f ∧ (∀ k, n ≤ k → k < ego p j i f n → i + k < p.length ∧ p.getD (j + k) 0 = p.getD (i + k) 0) ∧ (ego p j i f n < n + f → ¬ (i + ego p j i f n < p.length ∧ p.getD (j + ego p j i f n) 0 = p.getD (i + ego p j i f n) 0))
  | 0, n => ⟨Nat.le_refl _, Nat.le_refl _, fun k h1 h2 => by rw [ego] at h2; omega, fun h => by rw [ego] at h; omega⟩
  | f + 1, n => by
    rw [ego]
    by_cases h : i + n < p.length ∧ p.getD (j + n) 0 = p.getD (i + n) 0
    · rw [if_pos h]
      obtain ⟨h1, h2, h3, h4⟩ := ego_spec (p := p) (j := j) (i := i) f (n + 1)
      refine ⟨by omega, by omega, fun k g1 g2 => ?_, fun g => h4 (by omega)⟩
      by_cases e : k = n
      · subst e; exact h
      exact h3 k (by omega) g2
    rw [if_neg h]
    exact ⟨Nat.le_refl _, by omega, fun k g1 g2 => by omega, fun _ => h⟩
theorem eqn_spec (p : List UInt8) (j i : Nat) : eqn p j i ≤ 258 ∧ (∀ k, k < eqn p j i → i + k < p.length ∧ p.getD (j + k) 0 = p.getD (i + k) 0) ∧ (eqn p j i < 258 → ¬ (i + eqn p j i < p.length ∧ p.getD (j + eqn p j i) 0 = p.getD (i + eqn p j i) 0)) := by
 obtain ⟨_, h2, h3, h4⟩ := ego_spec (p := p) (j := j) (i := i) 258 0
 exact ⟨by unfold eqn; omega, fun k hk => h3 k (Nat.zero_le _) hk, fun h => h4 (by unfold eqn at h; omega)⟩
theorem u8_ext {a b : UInt8} (h : a.toNat = b.toNat) : a = b := UInt8.toNat_inj.1 h
theorem key_eq {p : List UInt8} {j i : Nat} : key p j = key p i ↔ ∀ k, k < 3 → p.getD (j + k) 0 = p.getD (i + k) 0 := by
  have b : ∀ x, (p.getD x 0).toNat < 256 := fun x => (p.getD x 0).toNat_lt
  constructor
  · intro h k hk
    have := b j; have := b (j + 1); have := b (j + 2); have := b i; have := b (i + 1); have := b (i + 2)
    unfold key at h
    refine u8_ext ?_
    rcases (show k = 0 ∨ k = 1 ∨ k = 2 by omega) with rfl | rfl | rfl
    · show (p.getD j 0).toNat = (p.getD i 0).toNat; omega
    · omega
    omega
  intro h
  have h0 : p.getD j 0 = p.getD i 0 := h 0 (by decide)
  unfold key; rw [h0, h 1 (by decide), h 2 (by decide)]
theorem eqn_three {p : List UInt8} {j i : Nat} (hi : i + 3 ≤ p.length) : 3 ≤ eqn p j i ↔ key p j = key p i := by
 obtain ⟨h1, h2, h3⟩ := eqn_spec p j i
 rw [key_eq]
 constructor
 · intro h k hk; exact (h2 k (by omega)).2
 intro h
 by_cases c : eqn p j i < 3
 · exact (h3 (by omega) ⟨by omega, h _ c⟩).elim
 omega
theorem eqn_short {p : List UInt8} {j i : Nat} (hi : p.length < i + 3) : eqn p j i < 3 := by
 obtain ⟨h1, h2, h3⟩ := eqn_spec p j i
 by_cases c : eqn p j i < 3
 · exact c
 have := (h2 2 (by omega)).1; omega
def bgo (p : List UInt8) (i : Nat) : Nat → Nat → Nat → Nat → Nat × Nat
 | 0, len, dist, _ => (len, dist)
 | j + 1, len, dist, seen =>
  if 32 ≤ seen then (len, dist)
  else if 3 ≤ eqn p j i then (if len < eqn p j i then bgo p i j (eqn p j i) (i - j) (seen + 1) else bgo p i j len dist (seen + 1))
  else bgo p i j len dist seen
def bst (p : List UInt8) (i : Nat) : Nat × Nat := bgo p i i 0 0 0
theorem bgo_full {p : List UInt8} {i : Nat} {len dist seen : Nat} (h : 32 ≤ seen) : ∀ j, bgo p i j len dist seen = (len, dist)
 | 0 => rfl
 | j + 1 => by rw [bgo, if_pos h]
theorem bgo_skip {p : List UInt8} {i len dist seen b : Nat} : ∀ {a : Nat}, b ≤ a → (∀ j, b ≤ j → j < a → eqn p j i < 3) → bgo p i a len dist seen = bgo p i b len dist seen := by
  intro a
  induction a with
  | zero => intro h _; obtain rfl : b = 0 := by omega
            rfl
  | succ a ih =>
    intro h hn
    by_cases e : b = a + 1
    · subst e; rfl
    by_cases hs : 32 ≤ seen
    · rw [bgo_full hs, bgo_full hs]
    rw [bgo, if_neg hs, if_neg (by have := hn a (by omega) (by omega); omega)]
    exact ih (by omega) fun j h1 h2 => hn j h1 (by omega)
def Good (p : List UInt8) (i : Nat) (r : Nat × Nat) : Prop := 3 ≤ r.1 ∧ r.1 ≤ 258 ∧ 1 ≤ r.2 ∧ r.2 ≤ i ∧ i + r.1 ≤ p.length ∧ ∀ k, k < r.1 → p.getD (i - r.2 + k) 0 = p.getD (i + k) 0
theorem good_of {p : List UInt8} {i j : Nat} (hj : j < i) (h : 3 ≤ eqn p j i) : Good p i (eqn p j i, i - j) := by
  obtain ⟨h1, h2, h3⟩ := eqn_spec p j i
  refine ⟨h, h1, by show 1 ≤ i - j; omega, by show i - j ≤ i; omega, ?_, fun k hk => ?_⟩
  · have := (h2 (eqn p j i - 1) (by omega)).1
    show i + eqn p j i ≤ _; omega
  have := (h2 k hk).2
  show p.getD (i - (i - j) + k) 0 = _
  rw [show i - (i - j) = j by omega]; exact this
theorem bgo_good {p : List UInt8} {i : Nat} : ∀ (j len dist seen : Nat), j ≤ i → ((len, dist) = (0, 0) ∨ Good p i (len, dist)) → (bgo p i j len dist seen = (0, 0) ∨ Good p i (bgo p i j len dist seen))
  | 0, len, dist, seen, _, h => h
  | j + 1, len, dist, seen, hj, h => by
    rw [bgo]
    split
    · exact h
    split
    · split
      · exact bgo_good j _ _ _ (by omega) (.inr (good_of (by omega) ‹_›))
      exact bgo_good j _ _ _ (by omega) h
    exact bgo_good j _ _ _ (by omega) h
theorem bst_good (p : List UInt8) (i : Nat) : bst p i = (0, 0) ∨ Good p i (bst p i) := bgo_good i 0 0 0 (Nat.le_refl _) (.inl rfl)
theorem bst_bd {p : List UInt8} {i : Nat} (hi : i < p.length) : (bst p i).1 ≤ 258 ∧ (bst p i).2 ≤ i ∧ i + (bst p i).1 ≤ p.length := by
 rcases bst_good p i with h | h
 · rw [h]; exact ⟨by decide, by simp, by simp; omega⟩
 exact ⟨h.2.1, h.2.2.2.1, h.2.2.2.2.1⟩
def toks (p : List UInt8) (at_ : Nat) : List Nat :=
 if h : at_ < p.length then
  (if h2 : (bst p at_).1 = 0 then (p.getD at_ 0).toNat :: toks p (at_ + 1) else ((bst p at_).1 * 65536 + (bst p at_).2) :: toks p (at_ + (bst p at_).1))
 else []
termination_by p.length - at_
theorem toks_lit {p : List UInt8} {i : Nat} (h : i < p.length) (h2 : (bst p i).1 = 0) : toks p i = (p.getD i 0).toNat :: toks p (i + 1) := by rw [toks, dif_pos h, dif_pos h2]
theorem toks_mat {p : List UInt8} {i : Nat} (h : i < p.length) (h2 : ¬ (bst p i).1 = 0) : toks p i = ((bst p i).1 * 65536 + (bst p i).2) :: toks p (i + (bst p i).1) := by rw [toks, dif_pos h, dif_neg h2]
theorem toks_end {p : List UInt8} {i : Nat} (h : p.length ≤ i) : toks p i = [] := by rw [toks, dif_neg (by omega)]
def pv (p : List UInt8) (k : Nat) : Nat → Int
 | 0 => -1
 | m + 1 => if m + 3 ≤ p.length ∧ key p m = k then (m : Int) else pv p k m
theorem pv_spec (p : List UInt8) (k : Nat) : ∀ m, (pv p k m = -1 ∧ ∀ j, j < m → j + 3 ≤ p.length → key p j ≠ k) ∨ ∃ q : Nat, pv p k m = (q : Int) ∧ q < m ∧ q + 3 ≤ p.length ∧ key p q = k ∧ ∀ j, q < j → j < m → j + 3 ≤ p.length → key p j ≠ k
  | 0 => .inl ⟨rfl, fun j h => by omega⟩
  | m + 1 => by
    rw [pv]
    by_cases h : m + 3 ≤ p.length ∧ key p m = k
    · rw [if_pos h]; exact .inr ⟨m, rfl, by omega, h.1, h.2, fun j h1 h2 => by omega⟩
    rw [if_neg h]
    rcases pv_spec p k m with ⟨h1, h2⟩ | ⟨q, h1, h2, h3, h4, h5⟩
    · refine .inl ⟨h1, fun j hj hl => ?_⟩
      by_cases e : j = m
      · subst e; exact fun e => h ⟨hl, e⟩
      exact h2 j (by omega) hl
    refine .inr ⟨q, h1, by omega, h3, h4, fun j g1 g2 hl => ?_⟩
    by_cases e : j = m
    · subst e; exact fun e => h ⟨hl, e⟩
    exact h5 j g1 (by omega) hl
theorem bgo_pv {p : List UInt8} {i m len dist seen : Nat} (hi : i + 3 ≤ p.length) (hm : m ≤ i) : (pv p (key p i) m = -1 ∧ bgo p i m len dist seen = (len, dist)) ∨ ∃ q : Nat, pv p (key p i) m = (q : Int) ∧ q < m ∧ q + 3 ≤ p.length ∧ key p q = key p i ∧ 3 ≤ eqn p q i ∧ bgo p i m len dist seen = bgo p i (q + 1) len dist seen := by
  have hlt : ∀ j, j < m → key p j ≠ key p i → eqn p j i < 3 := fun j hj h => by
    by_cases c : 3 ≤ eqn p j i
    · exact (h ((eqn_three hi).1 c)).elim
    omega
  rcases pv_spec p (key p i) m with ⟨h1, h2⟩ | ⟨q, h1, h2, h3, h4, h5⟩
  · left
    refine ⟨h1, ?_⟩
    rw [bgo_skip (b := 0) (Nat.zero_le _) (fun j _ hj => hlt j hj (h2 j hj (by omega))), bgo]
  right
  exact ⟨q, h1, h2, h3, h4, (eqn_three hi).2 h4, bgo_skip (by omega) fun j g1 g2 => hlt j g2 (h5 j (by omega) g2 (by omega))⟩
theorem bst_short {p : List UInt8} {i : Nat} (h : p.length < i + 3) : bst p i = (0, 0) := by
 unfold bst
 rw [bgo_skip (b := 0) (Nat.zero_le _) (fun j _ _ => eqn_short h), bgo]
def rp (d : Nat) (out : List UInt8) : Nat → List UInt8
 | 0 => out
 | n + 1 => rp d out n ++ [(rp d out n).getD ((rp d out n).length - d) 0]
theorem rp_len (d : Nat) (out : List UInt8) : ∀ n, (rp d out n).length = out.length + n
 | 0 => rfl
 | n + 1 => by rw [rp, List.length_append, rp_len d out n]; rfl
theorem rp_take {p : List UInt8} {i d : Nat} (hd : 1 ≤ d) (hdi : d ≤ i) : ∀ n, i + n ≤ p.length → (∀ k, k < n → p.getD (i - d + k) 0 = p.getD (i + k) 0) → rp d (p.take i) n = p.take (i + n)
 | 0, _, _ => rfl
 | n + 1, hl, h => by
  have ih := rp_take hd hdi n (by omega) fun k hk => h k (by omega)
  rw [rp, ih, List.length_take, Nat.min_eq_left (by omega), ← Nat.add_assoc, ← List.take_append_getElem (show i + n < p.length by omega)]
  congr 2
  have h1 := h n (by omega)
  rw [List.getD_eq_getElem?_getD, List.getElem?_take_of_lt (by omega), ← List.getD_eq_getElem?_getD, show i + n - d = i - d + n by omega, h1, List.getD_eq_getElem?_getD, List.getElem?_eq_getElem (by omega)]; rfl
theorem toks_ok {p : List UInt8} (hp : p.length ≤ 32768) (i : Nat) : ∀ t ∈ toks p i, t ≤ 255 ∨ (3 ≤ t / 65536 ∧ t / 65536 ≤ 258 ∧ 1 ≤ t % 65536 ∧ t % 65536 ≤ p.length) := by
  by_cases h : i < p.length
  · by_cases h2 : (bst p i).1 = 0
    · rw [toks_lit h h2]
      intro t ht
      rcases List.mem_cons.1 ht with rfl | ht
      · left; have := (p.getD i 0).toNat_lt; omega
      exact toks_ok hp (i + 1) t ht
    rw [toks_mat h h2]
    intro t ht
    rcases List.mem_cons.1 ht with rfl | ht
    · rcases bst_good p i with hz | ⟨g1, g2, g3, g4, g5, g6⟩
      · rw [hz] at h2; exact (h2 rfl).elim
      right
      exact ⟨by omega, by omega, by omega, by omega⟩
    exact toks_ok hp (i + (bst p i).1) t ht
  rw [toks_end (by omega)]; intro t ht; cases ht
termination_by p.length - i
end Df
end Go.Proofs.YtajklleiifhipaaGreatDoor
namespace Go.Proofs.YtajklleiifhipaaGreatDoor.Pf
def un (n : Nat) : Nat := if n = 0 then 0 else 2 ^ (30 - n)
def kr (l : List Nat) : Nat := (l.map un).sum
theorem kr_app (a b : List Nat) : kr (a ++ b) = kr a + kr b := by simp [kr]
theorem un_le (n : Nat) : un n ≤ 2 ^ 29 := by
 unfold un
 split
 · exact Nat.zero_le _
 exact Nat.pow_le_pow_right (by decide) (by omega)
theorem kr_le (l : List Nat) : kr l ≤ 2 ^ 29 * l.length := by
 induction l with
 | nil => simp [kr]
 | cons a l ih =>
  have := un_le a
  simp only [kr, List.map_cons, List.sum_cons, List.length_cons] at *; omega
def sy (l : List Nat) (n : Nat) : List Nat := (List.range l.length).filter fun i => decide (l.getD i 0 = n)
def ord (l : List Nat) : Nat → List Nat
 | 0 => []
 | n + 1 => ord l n ++ sy l (n + 1)
theorem sy_mem {l : List Nat} {n i : Nat} : i ∈ sy l n ↔ i < l.length ∧ l.getD i 0 = n := by
 unfold sy; rw [List.mem_filter, List.mem_range, decide_eq_true_eq]
theorem ord_mem {l : List Nat} {n i : Nat} : i ∈ ord l n ↔ i < l.length ∧ 1 ≤ l.getD i 0 ∧ l.getD i 0 ≤ n := by
 induction n with
 | zero => simp [ord]; omega
 | succ n ih => rw [ord, List.mem_append, ih, sy_mem]; omega
theorem sy_nodup (l : List Nat) (n : Nat) : (sy l n).Nodup := List.nodup_range.sublist List.filter_sublist
theorem ord_nodup (l : List Nat) (n : Nat) : (ord l n).Nodup := by
 induction n with
 | zero => simp [ord]
 | succ n ih =>
  rw [ord]
  refine List.nodup_append.2 ⟨ih, sy_nodup l _, fun a ha b hb e => ?_⟩
  have h1 := (ord_mem.1 ha).2.2
  have h2 := (sy_mem.1 hb).2
  rw [← e] at h2; omega
def Bf (l : List Nat) (i j : Nat) : Prop := l.getD i 0 < l.getD j 0 ∨ (l.getD i 0 = l.getD j 0 ∧ i < j)
theorem ord_sorted (l : List Nat) (n : Nat) : (ord l n).Pairwise (Bf l) := by
  induction n with
  | zero => simp [ord]
  | succ n ih =>
    rw [ord]
    refine List.pairwise_append.2 ⟨ih, ?_, fun a ha b hb => ?_⟩
    · have : (sy l (n + 1)).Pairwise (· < ·) := List.Pairwise.sublist List.filter_sublist (List.pairwise_lt_range)
      refine List.Pairwise.imp_of_mem (fun {a b} ha hb h => ?_) this
      have h1 := (sy_mem.1 ha).2; have h2 := (sy_mem.1 hb).2
      exact .inr ⟨by omega, h⟩
    have h1 := (ord_mem.1 ha).2.2; have h2 := (sy_mem.1 hb).2
    exact .inl (by omega)
theorem pairwise_uniq {R : Nat → Nat → Prop} (has : ∀ a b, R a b → ¬ R b a) : ∀ {a b : List Nat}, a.Pairwise R → b.Pairwise R → (∀ x, x ∈ a ↔ x ∈ b) → a = b
  | [], [], _, _, _ => rfl
  | [], y :: b, _, _, h => by have := (h y).2 (by simp); simp at this
  | x :: a, [], _, _, h => by have := (h x).1 (by simp); simp at this
  | x :: a, y :: b, ha, hb, h => by
    rw [List.pairwise_cons] at ha hb
    have hxy : x = y := by
      rcases List.mem_cons.1 ((h x).1 (by simp)) with e | h1
      · exact e
      rcases List.mem_cons.1 ((h y).2 (by simp)) with e | h2
      · exact e.symm
      exact (has _ _ (hb.1 x h1) (ha.1 y h2)).elim
    subst hxy
    have irr : ¬ R x x := fun hr => has _ _ hr hr
    congr 1
    refine pairwise_uniq has ha.2 hb.2 fun z => ?_
    have hz := h z
    simp only [List.mem_cons] at hz
    constructor
    · intro h1
      rcases hz.1 (.inr h1) with rfl | h2
      · exact (irr (ha.1 _ h1)).elim
      exact h2
    intro h1
    rcases hz.2 (.inr h1) with rfl | h2
    · exact (irr (hb.1 _ h1)).elim
    exact h2
theorem bf_anti (l : List Nat) (a b : Nat) (h : Bf l a b) : ¬ Bf l b a := by unfold Bf at *; omega
theorem ord_uniq {l : List Nat} {n : Nat} {os : List Nat} (h1 : os.Pairwise (Bf l)) (h2 : ∀ i, i ∈ os ↔ i < l.length ∧ 1 ≤ l.getD i 0 ∧ l.getD i 0 ≤ n) : os = ord l n :=
 pairwise_uniq (bf_anti l) h1 (ord_sorted l n) fun x => (h2 x).trans ord_mem.symm
def lens (l os : List Nat) : List Nat := os.map fun i => l.getD i 0
def Kp (l os : List Nat) (k : Nat) : Nat := kr (lens l (os.take k))
theorem Kp_succ {l os : List Nat} {k : Nat} (h : k < os.length) : Kp l os (k + 1) = Kp l os k + un (l.getD os[k] 0) := by
 unfold Kp lens
 rw [← List.take_append_getElem h, List.map_append, kr_app]; simp [kr]
theorem Kp_mono {l os : List Nat} {a b : Nat} (h : a ≤ b) (hb : b ≤ os.length) : Kp l os a ≤ Kp l os b := by
  induction b with
  | zero => obtain rfl : a = 0 := by omega
            exact Nat.le_refl _
  | succ b ih =>
    by_cases e : a = b + 1
    · subst e; exact Nat.le_refl _
    have := ih (by omega) (by omega); rw [Kp_succ (by omega)]; omega
theorem kr_ord {l : List Nat} (h : ∀ n ∈ l, n ≤ 30) : kr (lens l (ord l 30)) = kr l := by
  have key : ∀ n, kr (lens l (ord l n)) = ((List.range l.length).map fun i => if 1 ≤ l.getD i 0 ∧ l.getD i 0 ≤ n then un (l.getD i 0) else 0).sum := by
    intro n
    induction n with
    | zero =>
      have : ∀ m : Nat, ((List.range m).map fun i => if 1 ≤ l.getD i 0 ∧ l.getD i 0 ≤ 0 then un (l.getD i 0) else 0).sum = 0 := by
        intro m
        induction m with
        | zero => rfl
        | succ m ih => rw [List.range_succ, List.map_append, List.sum_append, ih, List.map_singleton, List.sum_singleton, if_neg (by omega)]
      rw [this]; rfl
    | succ n ih =>
      rw [ord, lens, List.map_append, kr_app]
      have ih : kr ((ord l n).map fun i => l.getD i 0) = _ := ih
      rw [ih]
      have : ∀ m : Nat, ((List.range m).map fun i => if 1 ≤ l.getD i 0 ∧ l.getD i 0 ≤ n then un (l.getD i 0) else 0).sum + kr ((((List.range m).filter fun i => decide (l.getD i 0 = n + 1))).map fun i => l.getD i 0) = ((List.range m).map fun i => if 1 ≤ l.getD i 0 ∧ l.getD i 0 ≤ n + 1 then un (l.getD i 0) else 0).sum := by
        intro m
        induction m with
        | zero => rfl
        | succ m ih =>
          rw [List.range_succ, List.map_append, List.sum_append, List.filter_append, List.map_append, kr_app, List.map_append, List.sum_append, ← ih, List.map_singleton, List.sum_singleton, List.map_singleton, List.sum_singleton]
          by_cases e : l.getD m 0 = n + 1
          · have hf : [m].filter (fun i => decide (l.getD i 0 = n + 1)) = [m] := by simp only [List.filter, decide_eq_true e]
            rw [hf, List.map_singleton]
            rw [if_neg (by omega), if_pos (by omega)]
            simp [kr]; omega
          have hf : [m].filter (fun i => decide (l.getD i 0 = n + 1)) = [] := by simp only [List.filter, decide_eq_false e]
          rw [hf, List.map_nil]
          by_cases h1 : 1 ≤ l.getD m 0 ∧ l.getD m 0 ≤ n
          · rw [if_pos h1, if_pos (by omega)]; simp [kr]; omega
          rw [if_neg h1, if_neg (by omega)]; simp [kr]
      exact this _
  rw [key]
  have : ∀ (m : Nat), m ≤ l.length → ((List.range m).map fun i => if 1 ≤ l.getD i 0 ∧ l.getD i 0 ≤ 30 then un (l.getD i 0) else 0).sum = kr (l.take m) := by
    intro m
    induction m with
    | zero => intro _; rfl
    | succ m ih =>
      intro hm
      have hg : l.getD m 0 = l[m] := by rw [List.getD_eq_getElem?_getD, List.getElem?_eq_getElem (by omega)]; rfl
      have h30 := h l[m] (List.getElem_mem _)
      rw [List.range_succ, List.map_append, List.sum_append, ih (by omega), ← List.take_append_getElem (show m < l.length by omega), kr_app, List.map_singleton, List.sum_singleton, hg]
      by_cases h1 : 1 ≤ l[m]
      · rw [if_pos ⟨h1, h30⟩]; simp [kr]
      rw [if_neg (by omega)]
      have : l[m] = 0 := by omega
      simp [kr, un, this]
  have := this l.length (Nat.le_refl _)
  rw [List.take_length] at this; exact this
theorem od_ex : ∃ f : List Nat → List Nat, ∀ l, f l = ord l 30 := ⟨_, fun _ => rfl⟩
noncomputable def od : List Nat → List Nat := Classical.choose od_ex
theorem od_eq (l : List Nat) : od l = ord l 30 := Classical.choose_spec od_ex l
theorem od_mem {l : List Nat} {i : Nat} : i ∈ od l ↔ i < l.length ∧ 1 ≤ l.getD i 0 ∧ l.getD i 0 ≤ 30 := by rw [od_eq]; exact ord_mem
theorem od_nodup (l : List Nat) : (od l).Nodup := by rw [od_eq]; exact ord_nodup l 30
theorem od_sorted (l : List Nat) : (od l).Pairwise (Bf l) := by rw [od_eq]; exact ord_sorted l 30
theorem od_uniq {l os : List Nat} (h1 : os.Pairwise (Bf l)) (h2 : ∀ i, i ∈ os ↔ i < l.length ∧ 1 ≤ l.getD i 0 ∧ l.getD i 0 ≤ 30) : os = od l := by rw [od_eq]; exact ord_uniq h1 h2
noncomputable def code (l : List Nat) (i : Nat) : Nat := if l.getD i 0 = 0 then 0 else Kp l (od l) ((od l).idxOf i) / 2 ^ (30 - l.getD i 0)
theorem Kp_dvd {l os : List Nat} (hs : os.Pairwise (Bf l)) (hm : ∀ i ∈ os, 1 ≤ l.getD i 0 ∧ l.getD i 0 ≤ 30) : ∀ {k n : Nat}, k ≤ os.length → (∀ i ∈ os.take k, l.getD i 0 ≤ n) → n ≤ 30 → 2 ^ (30 - n) ∣ Kp l os k := by
 intro k
 induction k with
 | zero => intro n _ _ _; exact ⟨0, by simp [Kp, lens, kr]⟩
 | succ k ih =>
  intro n hk hle hn
  have hk' : k < os.length := by omega
  rw [Kp_succ hk']
  have hin : os[k] ∈ os.take (k + 1) := by rw [← List.take_append_getElem hk']; exact List.mem_append.2 (.inr (by simp))
  have h1 := hle _ hin
  have h2 := (hm _ (List.getElem_mem hk')).1
  refine Nat.dvd_add (ih (by omega) (fun i hi => hle i (List.take_subset_take_left _ (by omega) hi)) hn) ?_
  rw [un, if_neg (by omega)]
  exact Nat.pow_dvd_pow 2 (by omega)
theorem ahead_le {l os : List Nat} (hs : os.Pairwise (Bf l)) {k : Nat} (hk : k < os.length) : ∀ i ∈ os.take k, l.getD i 0 ≤ l.getD os[k] 0 := fun i hi => by
 obtain ⟨a, ha, rfl⟩ := List.getElem_of_mem hi
 rw [List.length_take] at ha
 rw [List.getElem_take]
 have := List.pairwise_iff_getElem.1 hs a k (by omega) hk (by omega)
 unfold Bf at this; omega
theorem code_at {l : List Nat} {k : Nat} (hk : k < (od l).length) : code l (od l)[k] * 2 ^ (30 - l.getD (od l)[k] 0) = Kp l (od l) k ∧ code l (od l)[k] = Kp l (od l) k / 2 ^ (30 - l.getD (od l)[k] 0) := by
 have hm := od_mem.1 (List.getElem_mem hk)
 have hidx : (od l).idxOf (od l)[k] = k := (od_nodup l).idxOf_getElem k hk
 have hd := Kp_dvd (od_sorted l) (fun i hi => (od_mem.1 hi).2) (k := k) (n := l.getD (od l)[k] 0) (by omega) (ahead_le (od_sorted l) hk) hm.2.2
 have e : code l (od l)[k] = Kp l (od l) k / 2 ^ (30 - l.getD (od l)[k] 0) := by unfold code; rw [if_neg (by omega), hidx]
 exact ⟨by rw [e]; exact Nat.div_mul_cancel hd, e⟩
section
variable {l : List Nat}
theorem Kp_total (h : ∀ n ∈ l, n ≤ 30) : Kp l (od l) (od l).length = kr l := by
 unfold Kp; rw [List.take_length, od_eq]; exact kr_ord h
theorem idx_lt {i : Nat} (hi : i ∈ od l) : (od l).idxOf i < (od l).length := List.idxOf_lt_length_of_mem hi
theorem idx_get {i : Nat} (hi : i ∈ od l) : (od l)[(od l).idxOf i]'(idx_lt hi) = i := List.getElem_idxOf (idx_lt hi)
noncomputable def Kb (l : List Nat) (i : Nat) : Nat := Kp l (od l) ((od l).idxOf i)
theorem code_mul {i : Nat} (hi : i ∈ od l) : code l i * 2 ^ (30 - l.getD i 0) = Kb l i := by
 have := (code_at (idx_lt hi)).1
 rw [idx_get hi] at this; exact this
theorem Kb_end (h : ∀ n ∈ l, n ≤ 30) {i : Nat} (hi : i ∈ od l) : Kb l i + 2 ^ (30 - l.getD i 0) ≤ kr l := by
 have h1 := Kp_mono (l := l) (os := od l) (show (od l).idxOf i + 1 ≤ (od l).length from idx_lt hi) (Nat.le_refl _)
 have hm := (od_mem.1 hi).2
 rw [Kp_succ (idx_lt hi), idx_get hi, Kp_total h, un, if_neg (by omega)] at h1; exact h1
theorem Kb_next {i j : Nat} (hi : i ∈ od l) (hj : j ∈ od l) (h : Bf l i j) : Kb l i + 2 ^ (30 - l.getD i 0) ≤ Kb l j := by
  have hlt : (od l).idxOf i < (od l).idxOf j := by
    rcases Nat.lt_trichotomy ((od l).idxOf i) ((od l).idxOf j) with h1 | h1 | h1
    · exact h1
    · have e1 := idx_get hi; have e2 := idx_get hj
      have : i = j := by rw [← e1, ← e2]; congr 1
      subst this; exact (bf_anti l i i h h).elim
    have := List.pairwise_iff_getElem.1 (od_sorted l) _ _ (idx_lt hj) (idx_lt hi) h1
    rw [idx_get hi, idx_get hj] at this
    exact (bf_anti l _ _ this h).elim
  have h1 := Kp_mono (l := l) (os := od l) (show (od l).idxOf i + 1 ≤ (od l).idxOf j from hlt) (Nat.le_of_lt (idx_lt hj))
  have hm := (od_mem.1 hi).2
  rw [Kp_succ (idx_lt hi), idx_get hi, un, if_neg (by omega)] at h1; exact h1
theorem bf_total {i j : Nat} (h : i ≠ j) : Bf l i j ∨ Bf l j i := by unfold Bf; omega
theorem code_lt (h : ∀ n ∈ l, n ≤ 30) (hk : kr l ≤ 2 ^ 30) {i : Nat} (hi : i ∈ od l) : code l i < 2 ^ l.getD i 0 := by
 have h1 := Kb_end h hi
 have h2 := code_mul hi
 have hm := (od_mem.1 hi).2
 have hp : 2 ^ l.getD i 0 * 2 ^ (30 - l.getD i 0) = 2 ^ 30 := by rw [← Nat.pow_add]; congr 1; omega
 have hpos : 0 < 2 ^ (30 - l.getD i 0) := Nat.pow_pos (by decide)
 refine Nat.lt_of_mul_lt_mul_right (a := 2 ^ (30 - l.getD i 0)) ?_
 rw [hp, h2]; omega
theorem front_eq {i k : Nat} (hi : i ∈ od l) (hk : k ∈ od l) (hle : l.getD i 0 ≤ l.getD k 0) : code l k / 2 ^ (l.getD k 0 - l.getD i 0) = Kb l k / 2 ^ (30 - l.getD i 0) := by
 have hm := (od_mem.1 hk).2
 rw [← code_mul hk]
 have e : 2 ^ (30 - l.getD i 0) = 2 ^ (l.getD k 0 - l.getD i 0) * 2 ^ (30 - l.getD k 0) := by rw [← Nat.pow_add]; congr 1; omega
 rw [e, Nat.mul_div_mul_right _ _ (Nat.pow_pos (by decide))]
theorem front_lt {i k : Nat} (hi : i ∈ od l) (hk : k ∈ od l) (hle : l.getD i 0 ≤ l.getD k 0) (hb : Bf l i k) : code l i < code l k / 2 ^ (l.getD k 0 - l.getD i 0) := by
 rw [front_eq hi hk hle]
 have h1 := Kb_next hi hk hb
 have h2 := code_mul hi
 have hpos : 0 < 2 ^ (30 - l.getD i 0) := Nat.pow_pos (by decide)
 rw [Nat.lt_iff_add_one_le, Nat.le_div_iff_mul_le hpos, Nat.add_mul, Nat.one_mul, h2]; exact h1
theorem front_gt {i k : Nat} (hi : i ∈ od l) (hk : k ∈ od l) (he : l.getD i 0 = l.getD k 0) (hb : Bf l k i) : code l k < code l i := by
 have h1 := Kb_next hk hi hb
 have h2 := code_mul hi
 have h3 := code_mul hk
 have hpos : 0 < 2 ^ (30 - l.getD i 0) := Nat.pow_pos (by decide)
 refine Nat.lt_of_mul_lt_mul_right (a := 2 ^ (30 - l.getD i 0)) ?_
 rw [← he] at h1 h3
 rw [h2, h3]; omega
end
end Go.Proofs.YtajklleiifhipaaGreatDoor.Pf
