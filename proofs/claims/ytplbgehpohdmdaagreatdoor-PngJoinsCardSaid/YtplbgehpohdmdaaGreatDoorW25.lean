/- Texts of the claim, laid together: Pg7. -/
import Derived.Test.YtplbgehpohdmdaaGreatDoorW0
import Derived.Test.YtplbgehpohdmdaaGreatDoorW15
import Derived.Test.YtplbgehpohdmdaaGreatDoorW22
import Derived.Test.YtplbgehpohdmdaaGreatDoorW23
set_option linter.unusedSimpArgs false
set_option linter.unusedVariables false
namespace Go.Proofs.YtplbgehpohdmdaaGreatDoor
open Go.RowKit Sym
open Pg
namespace Sym
section
variable {P : Program} {ops : Array Oper} {Q : Exit → Act → World → Prop} {s : St} {env : Env} {w0 w : World} {S : Nat → Prop} {rs : List Rg} {rest : List Oper} {d : Nat} {ty : TypeId} {pos : String} {aft : Array Edge}
theorem flat_drop {α : Type} {enc : α → List Value} {sz : Nat} : ∀ (l : List α) (a : Nat), (∀ x ∈ l, (enc x).length = sz) → (l.flatMap enc).drop (a * sz) = (l.drop a).flatMap enc
 | l, 0, _ => by simp
 | [], a + 1, _ => by simp
 | x :: l, a + 1, h => by
  rw [List.flatMap_cons, List.drop_succ_cons, ← flat_drop l a (fun y hy => h y (by simp [hy])), Nat.add_mul, Nat.one_mul, Nat.add_comm, ← List.drop_drop]
  congr 1
  rw [← h x (by simp), List.drop_left]
theorem RdF.partF {α : Type} {enc : α → List Value} {sz : Nat} {v v' : Value} {l : List α} {a : Nat} (h : RdF enc sz w v l) (p : Part sz v v' a l.length) : RdF enc sz w v' (l.drop a) := by
  refine ⟨fun x hx => h.1 x (List.mem_of_mem_drop hx), ?_⟩
  have h2 := Rd.ofPart h.2 p
  have hl : (l.drop a).length = l.length - a := List.length_drop
  rw [flat_drop l a h.1, List.take_of_length_le] at h2
  · rw [hl]; exact h2
  · have : ∀ m : List α, (∀ x ∈ m, (enc x).length = sz) → (m.flatMap enc).length = m.length * sz := fun m => by
      induction m with
      | nil => intro _; simp
      | cons y m ih => intro hm; rw [List.flatMap_cons, List.length_append, hm y (by simp), ih (fun z hz => hm z (by simp [hz])), List.length_cons, Nat.add_mul, Nat.one_mul, Nat.add_comm]
    rw [this _ (fun x hx => h.1 x (List.mem_of_mem_drop hx)), hl]; exact Nat.le_refl _
theorem E.slcF {α : Type} {enc : α → List Value} {sz : Nat} {l : List α} {t e : TypeId} {x : Operand} {lo hi : Option Operand} {v : Value} {k k' : IntKind} (a b : Nat) (hx : ev env x = some v)
    (hlo : lo.map (ev env) = some (some (.int k (a : Int))) ∨ (lo = none ∧ a = 0)) (hhi : hi.map (ev env) = some (some (.int k' (b : Int))) ∨ (hi = none ∧ b = l.length)) (hR : RdF enc sz w v l)
    (ht : P.underlying t = some (.slice e)) (hs : (P.info? e).map (·.size) = some sz) (hl : a ≤ b) (hh : b ≤ l.length) (hd : Nat.blt d s.n = true)
    (hK : ∀ v', Part sz v v' a b → wpE P ops Q s rest ((d, v') :: env) w) : wpE P ops Q s (⟨some d, .slice t x lo hi none, ty, pos, aft, none⟩ :: rest) env w := by
  obtain ⟨c, cap, hv, hc, _⟩ := hR.2
  subst hv
  have hp : Part sz (.slice c l.length cap) (.slice (if cap = a then c else c.map (·.add (a * sz))) (b - a) (cap - a)) a b := ⟨c, l.length, cap, rfl, hl, hh, rfl⟩
  refine E.op (fun a' ha => ?_) hd (hK _ hp)
  have h1 : lo.map a'.eval = some (.int k (a : Int)) ∨ (lo.map a'.eval = none ∧ a = 0) := by
    rcases hlo with hlo | ⟨rfl, h0⟩
    · cases lo with
      | none => simp at hlo
      | some y => simp at hlo; left; simp [ha.ev hlo]
    · right; exact ⟨rfl, h0⟩
  have h2 : hi.map a'.eval = some (.int k' (b : Int)) ∨ (hi.map a'.eval = none ∧ b = l.length) := by
    rcases hhi with hhi | ⟨rfl, h0⟩
    · cases hi with
      | none => simp at hhi
      | some y => simp at hhi; left; simp [ha.ev hhi]
    · right; exact ⟨rfl, h0⟩
  have := run_slice (P := P) (w := w) (a := c) ht hs h1 h2 hl hh hc
  simp [execOp, ha.ev hx, this]
theorem ret4 {fn : Func} {n t u r q : Nat} {v1 v2 v3 v4 : Value} {Φ : Value → World → Prop} (hres : fn.results = #[.tmp t, .tmp u, .tmp r, .tmp q]) (h1 : look env t = some v1) (h2 : look env u = some v2) (h3 : look env r = some v3) (h4 : look env q = some v4) (h : Φ (.tuple #[v1, v2, v3, v4]) w) : wpX .ret (bodyPost P fn (RetPost Φ)) ⟨n, []⟩ env w :=
 retG (fun a ha => by simp [results, hres, ha.get t v1 h1, ha.get u v2 h2, ha.get r v3 h3, ha.get q v4 h4]) h
end
end Sym
theorem Cks.tail {w : World} {p v' : Value} {h0 : Hd} {hr : List Hd} {c : Ck} {r : List Ck} (h : Cks w p (h0 :: hr) (c :: r)) (q : Part 2 p v' 1 (zc (c :: r) (h0 :: hr)).length) : Cks w v' hr r := by
 refine ⟨h.row.partF q, ?_⟩
 have := h.bag
 refine ⟨by have := this.1; simp at this ⊢; exact this, fun i x l hx hl => this.2 (i + 1) x l (by simpa using hx) (by simpa using hl)⟩
namespace Pg
theorem dat_app (a b : List Ck) : dtc (a ++ b) = dtc a ++ dtc b := by
 induction a with
 | nil => rfl
 | cons c a ih => rw [List.cons_append, dtc, dtc, ih]; split <;> simp
theorem any_app (a b : List Ck) : anyD (a ++ b) = (anyD a || anyD b) := by
 induction a with
 | nil => rfl
 | cons c a ih => rw [List.cons_append, anyD, anyD, ih]; split <;> simp
theorem dat_t {r : List Ck} {k : Nat} (h : k < r.length) (hc : (r[k]).1 = tD) : dtc (r.take (k + 1)) = dtc (r.take k) ++ (r[k]).2 := by
 rw [← List.take_append_getElem h, dat_app, dtc, if_pos hc]; simp [dtc]
theorem dat_f {r : List Ck} {k : Nat} (h : k < r.length) (hc : (r[k]).1 ≠ tD) : dtc (r.take (k + 1)) = dtc (r.take k) := by
 rw [← List.take_append_getElem h, dat_app, dtc, if_neg hc]; simp [dtc]
theorem any_t {r : List Ck} {k : Nat} (h : k < r.length) (hc : (r[k]).1 = tD) : anyD (r.take (k + 1)) = true := by
 rw [← List.take_append_getElem h, any_app, anyD, if_pos hc]; simp
theorem any_f {r : List Ck} {k : Nat} (h : k < r.length) (hc : (r[k]).1 ≠ tD) : anyD (r.take (k + 1)) = anyD (r.take k) := by
 rw [← List.take_append_getElem h, any_app, anyD, if_neg hc]; simp [anyD]
def Fst (r : List Ck) (k st : Nat) (la : Int) : Prop := fmd 0 r = fmd st (r.drop k) ∧ -1 ≤ la ∧ la ≤ k ∧ ((st = 0 ∧ anyD (r.take k) = false) ∨ (st = 1 ∧ anyD (r.take k) = true ∧ la = (k : Int) - 1) ∨ (st = 2 ∧ anyD (r.take k) = true ∧ la < (k : Int) - 1))
theorem Fst.zero (r : List Ck) : Fst r 0 0 0 := ⟨rfl, by omega, by omega, .inl ⟨rfl, rfl⟩⟩
theorem Fst.head {r : List Ck} {k st : Nat} {la : Int} (h : Fst r k st la) (hk : k < r.length) (hc : (r[k]).1 = tH) : fmd 0 r = false := by
 rw [h.1, List.drop_eq_getElem_cons hk, fmd, if_pos hc]
theorem Fst.bad {r : List Ck} {k st : Nat} {la : Int} (h : Fst r k st la) (hk : k < r.length) (hc : (r[k]).1 = tD) (h2 : anyD (r.take k) = true ∧ la ≠ (k : Int) - 1) : fmd 0 r = false := by
 have hne : (r[k]).1 ≠ tH := fun e => by rw [e] at hc; revert hc; decide
 rcases h.2.2.2 with ⟨_, h0⟩ | ⟨_, _, h0⟩ | ⟨h0, _⟩
 · rw [h0] at h2; cases h2.1
 · exact (h2.2 h0).elim
 · rw [h.1, List.drop_eq_getElem_cons hk, fmd, if_neg hne, if_pos hc, if_pos h0]
theorem Fst.data {r : List Ck} {k st : Nat} {la : Int} (h : Fst r k st la) (hk : k < r.length) (hc : (r[k]).1 = tD) (h2 : ¬ (anyD (r.take k) = true ∧ la ≠ (k : Int) - 1)) : Fst r (k + 1) 1 k := by
 have hne : (r[k]).1 ≠ tH := fun e => by rw [e] at hc; revert hc; decide
 have h3 : st ≠ 2 := fun e => by
  rcases h.2.2.2 with ⟨h0, _⟩ | ⟨h0, _⟩ | ⟨_, h0, h1⟩
  · omega
  · omega
  · exact h2 ⟨h0, by omega⟩
 refine ⟨?_, by omega, by omega, .inr (.inl ⟨rfl, any_t hk hc, by omega⟩)⟩
 rw [h.1, List.drop_eq_getElem_cons hk, fmd, if_neg hne, if_pos hc, if_neg h3]
theorem Fst.cr {r : List Ck} {k st : Nat} {la : Int} (h : Fst r k st la) (hk : k < r.length) (h1 : (r[k]).1 ≠ tH) (h2 : (r[k]).1 ≠ tD) (hc : (r[k]).1 ≠ tE ∧ crit (r[k]).1) : fmd 0 r = false := by
 rw [h.1, List.drop_eq_getElem_cons hk, fmd, if_neg h1, if_neg h2, if_pos hc]
theorem Fst.more {r : List Ck} {k st : Nat} {la : Int} (h : Fst r k st la) (hk : k < r.length) (h1 : (r[k]).1 ≠ tH) (h2 : (r[k]).1 ≠ tD) (hc : ¬ ((r[k]).1 ≠ tE ∧ crit (r[k]).1)) : Fst r (k + 1) (if st = 0 then 0 else 2) la := by
  refine ⟨?_, h.2.1, by have := h.2.2.1; omega, ?_⟩
  · rw [h.1, List.drop_eq_getElem_cons hk, fmd, if_neg h1, if_neg h2, if_neg hc]
  · rw [any_f hk h2]
    rcases h.2.2.2 with ⟨h0, h3⟩ | ⟨h0, h3, h4⟩ | ⟨h0, h3, h4⟩
    · exact .inl ⟨by rw [if_pos h0], h3⟩
    · exact .inr (.inr ⟨by rw [if_neg (by omega)], h3, by omega⟩)
    · exact .inr (.inr ⟨by rw [if_neg (by omega)], h3, by omega⟩)
theorem Fst.all {r : List Ck} {st : Nat} {la : Int} (h : Fst r r.length st la) : fmd 0 r = true := by
 rw [h.1, List.drop_length]; cases st <;> rfl
end Pg
def ArrV (w w' : World) (v : Value) (h0 : Hd) (c : Ck) (r : List Ck) : Prop :=
 ((c.1 = tH ∧ c.2.length = 13 ∧ fmd 0 r = true) ∧ ∃ vd, v = .tuple #[slv h0, vd, .bool (anyD r), i64 0] ∧ M w Nn w' [Rg.sl u8 5 vd (dtc r)]) ∨ ((c.1 ≠ tH ∨ c.2.length ≠ 13 ∨ fmd 0 r = false) ∧ v = .tuple #[nilS, nilS, .bool false, i64 9] ∧ Ext w w')
set_option maxHeartbeats 2000000 in
theorem arranged_ret (p : Value) (h0 : Hd) (hr : List Hd) (c : Ck) (r : List Ck) (w : World) (hc : Cks w p (h0 :: hr) (c :: r)) (h4 : ∀ x ∈ r, x.1.length = 4) (hb : (dtc r).length ≤ 100000000) (hrl : r.length ≤ 100000) :
  Ret Tryz.prog 47 #[p] w fun v w' => ArrV w w' v h0 c r := by
 have hM := M.start w
 refine enter Tryz.func47 rfl (by kernel_rfl) Tryz.ntmps47 rfl ?_
 refine C.seq <| C.region <| E.asg rfl rfl <| E.asg rfl rfl <| E.asg rfl rfl <| E.asg rfl rfl <| E.nil <| X.next <| C.seq <| ?_

 refine C.chainE [(0, _), (3, _), (4, _)] rfl [(21, .bool (decide (c.1 ≠ tH ∨ c.2.length ≠ 13)))] ?_ ?_
 ·
  refine C.region <| E.mv rfl rfl <| ?_
  refine E.idxF (k := 0) rfl rfl (hc.row.ext hM.toExt) rfl (by rw [zc_len hc.len]; simp) (by decide) Tryz.underlying24 (by kernel_rfl) rfl ?_
  refine E.fld (o := 0) (sz := 0) rfl Tryz.underlying46 rfl rfl (by kernel_rfl) rfl ?_
  refine E.load rfl Tryz.underlying9 rfl ((hc.ext hM.toExt).at (i := 0) (by simp) 0 _ rfl) rfl ?_
  refine E.nestr (l := c.1) (m := tH) rfl rfl rfl ?_
  refine E.mv rfl rfl <| ?_
  refine E.split 14 rfl (fun g14 => ?_) (fun g14 => ?_)
  ·
   try simp only [Ya, Yb, Yc, Yd, Ye, Yf] at g14
   refine E.off rfl rfl rfl rfl <| E.off rfl rfl rfl rfl <| E.off rfl rfl rfl rfl <| E.off rfl rfl rfl rfl <| E.off rfl rfl rfl rfl <| E.off rfl rfl rfl rfl <| E.pick rfl rfl rfl <| E.nil <| X.join0 (Sub.cons (look_eq rfl (congrArg Value.bool (by exact (decide_eq_true (p := c.1 ≠ tH ∨ c.2.length ≠ 13) (.inl (by simpa using g14))).symm))) <| Sub.nil _) rfl rfl
  ·
   try simp only [Ya, Yb, Yc, Yd, Ye, Yf] at g14
   refine E.on rfl rfl (E.mv rfl rfl ?_)
   refine E.on rfl rfl (E.idxF (k := 0) rfl rfl (hc.row.ext hM.toExt) rfl (by rw [zc_len hc.len]; simp) (by decide) Tryz.underlying24 (by kernel_rfl) rfl ?_)
   refine E.on rfl rfl (E.fld (o := 1) (sz := 0) rfl Tryz.underlying46 rfl rfl (by kernel_rfl) rfl ?_)
   refine E.on rfl rfl (E.load rfl Tryz.underlying22 rfl ((hc.ext hM.toExt).at (i := 0) (by simp) 1 _ rfl) rfl ?_)
   refine E.on rfl rfl (E.lenv rfl (Rd.shape (hc.data (i := 0) (by simp))) Tryz.underlying22 rfl ?_)
   refine E.on rfl rfl (E.bin rfl rfl rfl rfl ?_)
   refine E.pick rfl rfl rfl <| E.nil <| X.join0 (Sub.cons (look_eq rfl (congrArg Value.bool (by exact decide_eq_decide.2 ⟨fun h => .inr (fun e => h (by show ((c.2.length : Nat) : Int) = 13; omega)), fun h e => by rcases h with h | h; exact h (by simpa using g14); (have e' : ((c.2.length : Nat) : Int) = 13 := e; omega)⟩))) <| Sub.nil _) rfl rfl
 refine C.cond' rfl (fun hC0 => ?_) (fun hC0 => ?_)
 ·
  refine C.seq <| C.region <| E.asg rfl rfl <| E.asg rfl rfl <| E.asg rfl rfl <| E.asg rfl rfl <| E.nil <| X.next <| C.ret <| X.retT <| ret4 rfl rfl rfl rfl rfl ?_
  exact .inr ⟨by rcases hC0 with h | h; exact .inl h; exact .inr (.inl h), rfl, hM.toExt⟩
 ·
  have hcH : c.1 = tH := Decidable.byContradiction fun h => hC0 (.inl h)
  have hc13 : c.2.length = 13 := Decidable.byContradiction fun h => hC0 (.inr h)
  refine C.skip <| X.next <| C.seq <| C.region <| E.asg rfl rfl <| E.nil <| X.next <| C.seq <| C.seq <| C.region <| E.mv rfl rfl <| ?_
  refine E.slcF (k' := .i64) 1 (zc (c :: r) (h0 :: hr)).length rfl (.inl rfl) (.inr ⟨rfl, rfl⟩) (hc.row.ext hM.toExt) Tryz.underlying24 (by kernel_rfl) (by rw [zc_len hc.len]; simp) (Nat.le_refl _) rfl ?_
  intro v23 q23
  have hc1 := hc.tail q23
  refine E.lenv rfl hc1.shape Tryz.underlying24 rfl ?_
  refine E.mv rfl rfl <| E.nil <| X.next <| C.block <| ?_
  have hM := hM.nil u8 5
  try dsimp only [List.nil_append, List.cons_append] at hM

  refine C.loop4 [(0, _), (23, _), (24, _)] rfl (fun (k : Nat) (vd : Value) (st : Nat) (la : Int) => [(3, vd), (4, .bool (anyD (r.take k))), (6, i64 la), (25, i64 k)]) (fun (k : Nat) (vd : Value) (st : Nat) (la : Int) w' => M w (Nn) w' [Rg.sl u8 5 vd (dtc (r.take k))] ∧ k ≤ r.length ∧ Fst r k st la) (fun (k : Nat) (vd : Value) (st : Nat) (la : Int) => r.length - k) 0 nilS 0 0 ?_ ?_ ?_
  · exact Sub.cons rfl <| Sub.cons rfl <| Sub.cons rfl <| Sub.cons rfl <| Sub.nil _
  · exact ⟨hM, Nat.zero_le _, Fst.zero r⟩
  rintro k vd st la w0 ⟨hM, hk, hF⟩
  refine C.seq <| C.region <| E.bin rfl rfl rfl rfl <| E.nil <| X.next <| C.seq <| ?_
  refine C.cond' rfl (fun hC1 => ?_) (fun hC1 => ?_)
  ·
   have hk' : k < r.length := by omega
   have h4k := h4 r[k] (List.getElem_mem hk')
   have hdl : (dtc (r.take k)).length + (dtc (r.drop k)).length = (dtc r).length := by rw [← List.length_append, ← dat_app, List.take_append_drop]
   refine C.skip <| X.next <| ?_

   refine C.cut3 [(0, _), (23, _), (24, _), (25, _)] rfl (fun (vd2 : Value) (st2 : Nat) (la2 : Int) => [(3, vd2), (4, .bool (anyD (r.take (k + 1)))), (6, i64 la2)]) (fun (vd2 : Value) (st2 : Nat) (la2 : Int) w' => M w (Nn) w' [Rg.sl u8 5 vd2 (dtc (r.take (k + 1)))] ∧ Fst r (k + 1) st2 la2) ?_ ?_
   ·
    refine C.block <| C.seq <| C.region <| E.mv rfl rfl <| ?_
    refine E.idxF (k := k) rfl rfl (hc1.row.ext hM.toExt) rfl (by rw [zc_len hc1.len]; exact hk') (by decide) Tryz.underlying24 (by kernel_rfl) rfl ?_
    refine E.loadA (cs := [str (r[k]).1, slv (hr[k]'(by rw [hc1.len]; exact hk'))]) rfl Tryz.underlying46 rfl (by kernel_rfl) ((hc1.ext hM.toExt).at hk') rfl ?_
    refine E.allocM (z := .agg #[.string .empty, .slice none 0 0]) (cs := [.string .empty, .slice none 0 0]) hM (by kernel_rfl) rfl rfl ?_
    intro b8 w1 hM
    try dsimp only [Za, Zb, Zc, Zd, repl] at hM
    refine E.asg rfl rfl <| ?_
    refine E.storeAM 1 hM rfl rfl rfl (by kernel_rfl) rfl (ones rfl <| ones rfl <| ones_nil) ?_
    intro w2 hM
    try dsimp only [Za, Zb, Zc, Zd, repl] at hM
    refine E.nil <| X.next <| C.block <| C.seq <| C.region <| ?_
    refine E.fld (o := 0) (sz := 0) rfl Tryz.underlying46 rfl rfl (by kernel_rfl) rfl ?_
    refine E.load rfl Tryz.underlying9 rfl (hM.bcell 1 rfl rfl) rfl ?_
    refine E.eqstr (l := (r[k]).1) (m := tH) rfl rfl rfl ?_
    refine E.asg rfl rfl <| E.nil <| X.next <| ?_
    refine C.cond' rfl (fun hC2 => ?_) (fun hC2 => ?_)
    ·
     refine C.seq <| C.region <| E.asg rfl rfl <| E.asg rfl rfl <| E.asg rfl rfl <| E.asg rfl rfl <| E.nil <| X.next <| C.ret <| X.retB <| X.retB <| X.retT <| X.retT <| X.retB <| X.retT <| ret4 rfl rfl rfl rfl rfl ?_
     exact .inr ⟨.inr (.inr (hF.head hk' hC2)), rfl, hM.toExt⟩
    ·
     refine C.seq <| C.region <| ?_
     refine E.fld (o := 0) (sz := 0) rfl Tryz.underlying46 rfl rfl (by kernel_rfl) rfl ?_
     refine E.load rfl Tryz.underlying9 rfl (hM.bcell 1 rfl rfl) rfl ?_
     refine E.eqstr (l := (r[k]).1) (m := tD) rfl rfl rfl ?_
     refine E.asg rfl rfl <| E.nil <| X.next <| ?_
     refine C.cond' rfl (fun hC3 => ?_) (fun hC3 => ?_)
     ·
      refine C.seq <| ?_

      refine C.chainE [(0, _), (3, _), (7, _), (8, _), (23, _), (24, _), (25, _)] rfl [(44, .bool (decide (anyD (r.take k) = true ∧ la ≠ (k : Int) - 1)))] ?_ ?_
      ·
       refine C.region <| E.mv rfl rfl <| E.mv rfl rfl <| ?_
       refine E.split 39 rfl (fun g39 => ?_) (fun g39 => ?_)
       ·
        try simp only [Ya, Yb, Yc, Yd, Ye, Yf] at g39
        refine E.on rfl rfl (E.mv rfl rfl ?_)
        refine E.on rfl rfl (E.mv rfl rfl ?_)
        refine E.on rfl rfl (E.sub' rfl rfl (by have := hF.2.2.1; omega) rfl ?_)
        refine E.on rfl rfl (E.bin rfl rfl rfl rfl ?_)
        refine E.pick rfl rfl rfl <| E.nil <| X.join0 (Sub.cons (look_eq rfl (congrArg Value.bool (by exact decide_eq_decide.2 ⟨fun h => ⟨g39, h⟩, fun h => h.2⟩))) <| Sub.nil _) rfl rfl
       ·
        try simp only [Ya, Yb, Yc, Yd, Ye, Yf] at g39
        refine E.off rfl rfl rfl rfl <| E.off rfl rfl rfl rfl <| E.off rfl rfl rfl rfl <| E.off rfl rfl rfl rfl <| E.pick rfl rfl rfl <| E.nil <| X.join0 (Sub.cons (look_eq rfl (congrArg Value.bool (by exact (decide_eq_false (p := anyD (r.take k) = true ∧ la ≠ (k : Int) - 1) (fun h => by rw [h.1] at g39; cases g39)).symm))) <| Sub.nil _) rfl rfl
      refine C.cond' rfl (fun hC4 => ?_) (fun hC4 => ?_)
      ·
       refine C.seq <| C.region <| E.asg rfl rfl <| E.asg rfl rfl <| E.asg rfl rfl <| E.asg rfl rfl <| E.nil <| X.next <| C.ret <| X.retT <| X.retB <| X.retB <| X.retT <| X.retT <| X.retB <| X.retT <| ret4 rfl rfl rfl rfl rfl ?_
       exact .inr ⟨.inr (.inr (hF.bad hk' hC3 hC4)), rfl, hM.toExt⟩
      ·
       refine C.skip <| X.next <| C.seq <| C.region <| E.mv rfl rfl <| E.asg rfl rfl <| E.asg rfl rfl <| E.nil <| X.next <| C.region <| E.mv rfl rfl <| ?_
       refine E.fld (o := 1) (sz := 0) rfl Tryz.underlying46 rfl rfl (by kernel_rfl) rfl ?_
       refine E.load rfl Tryz.underlying22 rfl (hM.bcell 1 rfl rfl) rfl ?_
       have hdk := dat_t hk' hC3
       have hdc : (r[k]).2.length ≤ (dtc (r.drop k)).length := by rw [List.drop_eq_getElem_cons hk', dtc, if_pos hC3, List.length_append]; omega
       refine E.appendM 0 hM rfl rfl rfl Tryz.underlying22 elem_Tuint8 ((hc1.data hk').ext hM.toExt) (fun _ => rfl) (by omega) (by omega) rfl ?_
       intro v49 w3 hM
       try dsimp only [Za, Zb, Zc, Zd, repl] at hM
       refine E.asg rfl rfl <| E.nil <| X.outN <| X.outN <| ?_
       rw [← hdk] at hM

       refine X.join3 _ 1 (k : Int) (Sub.cons rfl <| Sub.cons (look_eq rfl (congrArg Value.bool (any_t hk' hC3).symm)) <| Sub.cons rfl <| Sub.nil _) rfl ⟨hM.pick [0] (by decide), hF.data hk' hC3 hC4⟩
     ·

      refine C.cut0 [(0, _), (3, _), (4, _), (6, _), (23, _), (24, _), (25, _)] rfl [(50, .bool (decide ((r[k]).1 ≠ tE ∧ crit (r[k]).1)))] (fun w' => M w (Nn) w' [Rg.sl u8 5 vd (dtc (r.take k))]) ?_ ?_
      ·
       refine C.region <| ?_
       refine E.fld (o := 0) (sz := 0) rfl Tryz.underlying46 rfl rfl (by kernel_rfl) rfl ?_
       refine E.load rfl Tryz.underlying9 rfl (hM.bcell 1 rfl rfl) rfl ?_
       refine E.nestr (l := (r[k]).1) (m := tE) rfl rfl rfl ?_
       refine E.mv rfl rfl <| ?_
       refine E.split 54 rfl (fun g54 => ?_) (fun g54 => ?_)
       ·
        try simp only [Ya, Yb, Yc, Yd, Ye, Yf] at g54
        refine E.on rfl rfl (E.fld (o := 0) (sz := 0) rfl Tryz.underlying46 rfl rfl (by kernel_rfl) rfl ?_)
        refine E.on rfl rfl (E.load rfl Tryz.underlying9 rfl (hM.bcell 1 rfl rfl) rfl ?_)
        refine E.on rfl rfl (E.call rfl rfl (critical_ret (r[k]).1 _ (by omega)) ?_)
        rintro _ w4 ⟨rfl, x4⟩
        have hM := hM.ext x4
        have hcr : (65 ≤ ((r[k]).1[0]'(by omega)).toNat ∧ ((r[k]).1[0]'(by omega)).toNat ≤ 90) ↔ crit (r[k]).1 := by
         have := at_get (l := (r[k]).1) (i := 0) (by omega)
         unfold crit; omega
        try dsimp only [Za, Zb, Zc, Zd, repl] at hM

        refine E.pick rfl rfl rfl <| E.asg rfl rfl <| E.nil <| X.join0  (Sub.cons (look_eq rfl (congrArg Value.bool (decide_eq_decide.2 ⟨fun h => ⟨by simpa using g54, hcr.1 h⟩, fun h => hcr.2 h.2⟩))) <| Sub.nil _) rfl (hM.pick [0] (by decide))
       ·
        try simp only [Ya, Yb, Yc, Yd, Ye, Yf] at g54

        refine E.off rfl rfl rfl rfl <| E.off rfl rfl rfl rfl <| E.off rfl rfl rfl rfl <| E.pick rfl rfl rfl <| E.asg rfl rfl <| E.nil <| X.join0  (Sub.cons (look_eq rfl (congrArg Value.bool (decide_eq_false (p := (r[k]).1 ≠ tE ∧ crit (r[k]).1) (fun h => h.1 (by simpa using g54))).symm)) <| Sub.nil _) rfl (hM.pick [0] (by decide))
      rintro  w5 hM
      refine C.cond' rfl (fun hC5 => ?_) (fun hC5 => ?_)
      ·
       refine C.seq <| C.region <| E.asg rfl rfl <| E.asg rfl rfl <| E.asg rfl rfl <| E.asg rfl rfl <| E.nil <| X.next <| C.ret <| X.retB <| X.retB <| X.retT <| X.retT <| X.retB <| X.retT <| ret4 rfl rfl rfl rfl rfl ?_
       exact .inr ⟨.inr (.inr (hF.cr hk' hC2 hC3 hC5)), rfl, hM.toExt⟩
      ·

       refine C.skip <| X.outN <| X.outN <| X.join3 vd (if st = 0 then 0 else 2) la (Sub.cons rfl <| Sub.cons (look_eq rfl (congrArg Value.bool (any_f hk' hC3).symm)) <| Sub.cons rfl <| Sub.nil _) rfl ⟨by rw [dat_f hk' hC3]; exact hM, hF.more hk' hC2 hC3 hC5⟩
   rintro vd2 st2 la2 w6 ⟨hM, hF2⟩
   refine C.region <| ?_
   refine E.add rfl rfl (by omega) rfl ?_

   refine E.mv rfl rfl <| E.nil <| X.again4 (k + 1) vd2 st2 la2 (Sub.cons rfl <| Sub.cons rfl <| Sub.cons rfl <| Sub.cons rfl <| Sub.nil _) rfl ⟨hM, by omega, hF2⟩ (by omega)
  ·
   obtain rfl : k = r.length := by omega
   rw [List.take_length] at hM ⊢
   refine C.exit <| X.exitT <| X.exitT <| X.outE <| X.next <| C.seq <| C.region <| E.mv rfl rfl <| ?_
   refine E.idxF (k := 0) rfl rfl (hc.row.ext hM.toExt) rfl (by rw [zc_len hc.len]; simp) (by decide) Tryz.underlying24 (by kernel_rfl) rfl ?_
   refine E.fld (o := 1) (sz := 0) rfl Tryz.underlying46 rfl rfl (by kernel_rfl) rfl ?_
   refine E.load rfl Tryz.underlying22 rfl ((hc.ext hM.toExt).at (i := 0) (by simp) 1 _ rfl) rfl ?_
   refine E.mv rfl rfl <| E.mv rfl rfl <| E.asg rfl rfl <| E.asg rfl rfl <| E.asg rfl rfl <| E.asg rfl rfl <| E.nil <| X.next <| C.ret <| ret4 rfl rfl rfl rfl rfl ?_
   exact .inl ⟨⟨hcH, hc13, hF.all⟩, _, rfl, hM⟩
end Go.Proofs.YtplbgehpohdmdaaGreatDoor
