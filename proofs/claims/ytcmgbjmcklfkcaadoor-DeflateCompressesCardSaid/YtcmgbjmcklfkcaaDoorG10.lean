/- Texts of the claim, laid together: SymW, DfM. -/
import Derived.Laws.DeepNot64
import Derived.Test.YtcmgbjmcklfkcaaDoorG8
import Derived.Test.YtcmgbjmcklfkcaaDoorG9
/- The walk by named slots: deferred calls and locks; make with a capacity; lists of lists of bytes. For whatever program. -/
namespace Go.Proofs.YtcmgbjmcklfkcaaDoor.Sym
set_option linter.unusedSimpArgs false
set_option linter.unusedVariables false
open Go.RowKit Go.Conc.Locks Go.MuLone

section
variable {P : Program} {ops : Array Oper} {Q : Exit → Act → World → Prop} {Qn Lq : Act → Prop} {s : St} {env : Env} {w0 w w' : World} {S : Nat → Prop} {rs : List Rg} {rest : List Oper}
variable {d : Nat} {ty : TypeId} {pos : String} {aft : Array Edge}
/-- a function that defers a call -/
theorem enterD {f : FuncId} {fn : Func} {c : Code} {n : Nat} {l : List Value} {Φ : Value → World → Prop} (hf : P.funcs[f]? = some fn) (hb : fn.body = some c) (hname : (fn.name == "runtime.NumGoroutine") = false) (hn : fn.ntmps = n) (hl : Nat.ble l.length n = true)
    (h : wpC P c (bodyPostD P fn (RetPost Φ)) ⟨n, []⟩ (argEnv 0 l) w) : Ret P f l.toArray w Φ := by
  refine ⟨⟨fn, hf, hname, by rw [hb]; rfl⟩, calls_of_wp_defers hf hb (h _ ⟨rfl, ?_, fun i v hi => ?_⟩)⟩
  · have := Nat.le_of_ble_eq_true hl
    simp [hn]; omega
  · have := (look_argEnv l 0 i v hi).2
    simp at this
    rw [Array.getElem?_append_left (by simpa using (List.getElem?_eq_some_iff.1 this).1)]
    simpa using this
theorem E.defer {f : FuncId} {xs : List Operand} {ats : Array TypeId} {vs : List Value} (hx : evl env xs = some vs) (h : wpE P ops Q ⟨s.n, ⟨.fn (.func f) #[], vs.toArray⟩ :: s.ds⟩ rest env w) :
    wpE P ops Q s (⟨none, .defer ⟨.value (.func f), xs.toArray, ats⟩, ty, pos, aft, none⟩ :: rest) env w := fun a ha =>
  wpList_plain rfl fun K hK => by
    unfold Oper.wp
    have hr : (execOp a.eval ⟨none, .defer ⟨.value (.func f), xs.toArray, ats⟩, ty, pos, aft, none⟩).run P w = .ok (.defer ⟨.fn (.func f) #[], vs.toArray⟩) w := by
      simp [execOp, resolve, Act.eval, Deferred.ofValue, ha.evl hx]
    rw [hr, Oper.upon_defer]
    exact hK _ _ (h _ ⟨by simp [Act.put, ha.defers], ha.size, ha.get⟩)
/-- a return ahead of any deferred call -/
theorem retD0 {fn : Func} {n : Nat} {v : Value} {Φ : Value → World → Prop} (hr : ∀ a : Act, (∀ i v, look env i = some v → a.tmps[i]? = some v) → (results fn a.tmps).run P w = .ok v w) (h : Φ v w) : wpX .ret (bodyPostD P fn (RetPost Φ)) ⟨n, []⟩ env w := fun a ha => by
  show Leaves P fn a.tmps (RetPost Φ) a.defers .returning w
  rw [ha.defers]
  exact ⟨v, hr a ha.get, v, rfl, h⟩
theorem res1 {fn : Func} {t : Nat} {v : Value} (hres : fn.results = #[.tmp t]) (hv : look env t = some v) (a : Act) (ha : ∀ i v, look env i = some v → a.tmps[i]? = some v) : (results fn a.tmps).run P w = .ok v w := by
  rw [results_tmp hres]; simp [ha t v hv]
/-- a return behind 'defer mutex.Unlock()' -/
theorem retU {L : MuLink} (H : MuLib P L) (hcl : Callable P L.unlock) {fn : Func} {n b off : Nat} {T : TypeId} {cs : List Value} {v : Value} {Φ : Value → World → Prop} (i : Nat) (hM : M w0 S w rs) (hi : rs[i]? = some (Rg.blk b T cs)) (h0 : cs[off]? = some (.int .i32 1))
    (hr : ∀ (a : Act) (w' : World), (∀ i v, look env i = some v → a.tmps[i]? = some v) → (results fn a.tmps).run P w' = .ok v w') (h : ∀ w', M w0 S w' (rs.set i (Rg.blk b T (cs.set off (.int .i32 0)))) → Φ v w') :
    wpX .ret (bodyPostD P fn (RetPost Φ)) ⟨n, [⟨.fn (.func L.unlock) #[], #[.pointer (some ⟨b, off, none⟩)]⟩]⟩ env w := fun a ha => by
  show Leaves P fn a.tmps (RetPost Φ) a.defers .returning w
  rw [ha.defers]
  refine leaves_cons (f := L.unlock) (args := #[.pointer (some ⟨b, off, none⟩)]) (by simp) (by simp [invoke, run_callable hcl]) ?_
  refine CallsD.mono (unlock_deferred H ⟨b, off, none⟩ .returning w (hM.bcell i hi h0) ((hM.blk i hi).frozen off)) ?_
  rintro e u' w' ⟨rfl, rfl, rfl⟩
  exact ⟨v, hr a _ ha.get, v, rfl, h _ (setBlk hM i hi _)⟩
theorem lockR {L : MuLink} (H : MuLib P L) (hcl : Callable P L.lock) {b off : Nat} {T : TypeId} {cs : List Value} (i : Nat) (hM : M w0 S w rs) (hi : rs[i]? = some (Rg.blk b T cs)) (h0 : cs[off]? = some (.int .i32 0)) :
    Ret P L.lock #[.pointer (some ⟨b, off, none⟩)] w fun v w' => v = .tuple #[] ∧ M w0 S w' (rs.set i (Rg.blk b T (cs.set off (.int .i32 1)))) :=
  ⟨hcl, Calls.mono (lock_free H ⟨b, off, none⟩ w (hM.bcell i hi h0) ((hM.blk i hi).frozen off)) fun e w' ⟨he, hw⟩ => ⟨_, he, rfl, by rw [hw]; exact setBlk hM i hi _⟩⟩
theorem unlockR {L : MuLink} (H : MuLib P L) (hcl : Callable P L.unlock) {b off : Nat} {T : TypeId} {cs : List Value} (i : Nat) (hM : M w0 S w rs) (hi : rs[i]? = some (Rg.blk b T cs)) (h0 : cs[off]? = some (.int .i32 1)) :
    Ret P L.unlock #[.pointer (some ⟨b, off, none⟩)] w fun v w' => v = .tuple #[] ∧ M w0 S w' (rs.set i (Rg.blk b T (cs.set off (.int .i32 0)))) :=
  ⟨hcl, Calls.mono (unlock_held H ⟨b, off, none⟩ w (hM.bcell i hi h0) ((hM.blk i hi).frozen off)) fun e w' ⟨he, hw⟩ => ⟨_, he, rfl, by rw [hw]; exact setBlk hM i hi _⟩⟩
/-- make([]T, 0, n) -/
theorem E.make0M {α : Type} {enc : α → Value} {t e : TypeId} {by_ : Nat} {x y : Operand} {n : Nat} (z : α) (hM : M w0 S w rs) (hx : ev env x = some (.int .i64 0)) (hy : ev env y = some (.int .i64 (n : Int))) (ht : P.underlying t = some (.slice e)) (hz : (P.info? e).map (fun i => (i.zero, i.size, i.bytes)) = some (some (enc z), 1, by_)) (hc : (enc z).cells = #[enc z])
    (hby : by_ * n ≤ 281474976710656) (hn : n ≤ 9223372036854775807) (hd : Nat.blt d s.n = true)
    (h : ∀ v w', M w0 S w' (rs ++ [Rg.sl enc e v []]) → wpE P ops Q s rest ((d, v) :: env) w') : wpE P ops Q s (⟨some d, .makeSlice t x y, ty, pos, aft, none⟩ :: rest) env w := by
  cases hq : P.info? e with
  | none => simp [hq] at hz
  | some i =>
    simp only [hq, Option.map_some, Option.some.injEq, Prod.mk.injEq] at hz
    obtain ⟨h1, h2, h3⟩ := hz
    have hb' : (i.bytes : Int) * (n : Int) ≤ 281474976710656 := by rw [h3, ← Int.natCast_mul]; omega
    have hr' : (Instr.makeSlice t (.int .i64 0) (.int .i64 (n : Int))).run P w = .ok (.slice (some ⟨w.heap.size, 0, none⟩) 0 n) (w.alloc (.cells (madeCells (enc z).cells (n * i.size)) e)) := by
      have := run_make (P := P) w t e i (enc z) ht hq h1 .i64 .i64 0 (n : Int) (by omega) (by omega) hb' (by omega)
      simpa using this
    rw [hc, h2] at hr'
    refine E.op (v := .slice (some ⟨w.heap.size, 0, none⟩) 0 n) (w' := w.alloc (.cells (madeCells #[enc z] (n * 1)) e)) (fun a ha => ?_) hd (h _ _ (hM.new (Ext.new w _) ?_ ?_))
    · simp only [execOp, ha.ev hx, ha.ev hy]
      rw [Sem.run_bind, hr']; rfl
    · exact ⟨by simp, .inr ⟨w.heap.size, n, madeCells #[enc z] (n * 1), by simp, Nat.zero_le _, heap_alloc_new w _, by simp, by unfold maxLen; omega, by simp [madeCells], by simp⟩⟩
    · intro k hk; cases hk; exact Nat.le_refl _
end
/-! a region less, two regions as one -/
section
variable {w0 w w' : World} {S : Nat → Prop} {rs : List Rg} {r q p : Rg}
def Rg.emp : Rg := ⟨fun _ => False, fun _ => True, fun _ h => h, fun _ _ h => h.elim⟩
theorem M.drop (h : M w0 S w rs) (j : Nat) (hj : rs[j]? = some q) : M w0 S w (rs.set j Rg.emp) := h.weak j hj trivial (fun _ h => h.elim)
/-- region j is taken into region i -/
theorem M.join (h : M w0 S w rs) (i j : Nat) (hne : i ≠ j) (hi : rs[i]? = some r) (hj : rs[j]? = some q) (hp : p.ok w) (hf : ∀ k, p.fp k → r.fp k ∨ q.fp k) : M w0 S w ((rs.set j Rg.emp).set i p) := by
  have hli : i < rs.length := (List.getElem?_eq_some_iff.1 hi).1
  have hlj : j < rs.length := (List.getElem?_eq_some_iff.1 hj).1
  have at_ : ∀ a x, ((rs.set j Rg.emp).set i p)[a]? = some x → (a = i ∧ x = p) ∨ (a = j ∧ x = Rg.emp) ∨ (a ≠ i ∧ a ≠ j ∧ rs[a]? = some x) := fun a x hx => by
    by_cases e : i = a
    · subst e; rw [List.getElem?_set_self (by simpa using hli)] at hx; exact .inl ⟨rfl, (Option.some.inj hx).symm⟩
    · rw [List.getElem?_set_ne e] at hx
      by_cases e2 : j = a
      · subst e2; rw [List.getElem?_set_self hlj] at hx; exact .inr (.inl ⟨rfl, (Option.some.inj hx).symm⟩)
      · rw [List.getElem?_set_ne e2] at hx; exact .inr (.inr ⟨fun h => e h.symm, fun h => e2 h.symm, hx⟩)
  refine ⟨⟨fun a x hx => ?_, fun a b x y ha hb hab k hk hk' => ?_⟩, fun a x hx k hk => ?_, h.fr⟩
  · rcases at_ a x hx with ⟨_, rfl⟩ | ⟨_, rfl⟩ | ⟨_, _, hx⟩
    · exact hp
    · trivial
    · exact h.ok hx
  · rcases at_ a x ha with ⟨ea, ex⟩ | ⟨ea, ex⟩ | ⟨na, na', ha⟩
    · rcases at_ b y hb with ⟨eb, ey⟩ | ⟨eb, ey⟩ | ⟨nb, nb', hb⟩
      · exact hab (ea.trans eb.symm)
      · rw [ey] at hk'; exact hk'
      · rw [ex] at hk
        rcases hf k hk with h1 | h1
        · exact h.sep.apart i b r y hi hb (fun e => nb e.symm) k h1 hk'
        · exact h.sep.apart j b q y hj hb (fun e => nb' e.symm) k h1 hk'
    · rw [ex] at hk; exact hk
    · rcases at_ b y hb with ⟨eb, ey⟩ | ⟨eb, ey⟩ | ⟨nb, nb', hb⟩
      · rw [ey] at hk'
        rcases hf k hk' with h1 | h1
        · exact h.sep.apart a i x r ha hi na k hk h1
        · exact h.sep.apart a j x q ha hj na' k hk h1
      · rw [ey] at hk'; exact hk'
      · exact h.sep.apart a b x y ha hb hab k hk hk'
  · rcases at_ a x hx with ⟨_, e⟩ | ⟨_, e⟩ | ⟨_, _, hx⟩
    · rw [e] at hk
      rcases hf k hk with h1 | h1
      · exact h.mine i r hi k h1
      · exact h.mine j q hj k h1
    · rw [e] at hk; exact hk.elim
    · exact h.mine a x hx k hk
theorem Sep.one (h : r.ok w) : Sep w [r] := ⟨fun i q hi => by
  cases i with
  | zero => have : r = q := by simpa using hi
            exact this ▸ h
  | succ i => simp at hi, fun i j p q hi hj hne => by
  have := (List.getElem?_eq_some_iff.1 hi).1; have := (List.getElem?_eq_some_iff.1 hj).1; simp at *; omega⟩
theorem M.sep1 (h : M w0 S w rs) (i : Nat) (hi : rs[i]? = some r) : Sep w [r] := Sep.one (h.ok hi)
/-- a call that turns one region -/
theorem M.call1 {outs : List Rg} (h : M w0 S w rs) (i : Nat) (hi : rs[i]? = some r) (hl : 1 ≤ outs.length) (k : M w (fpU [r]) w' outs) : M w0 S w' (repl rs [i] outs) :=
  h.callM [i] (by simp) (by simp [hi]) rfl hl k
theorem fp1 {k : Nat} : fpU [r] k ↔ r.fp k := by
  constructor
  · rintro ⟨i, q, hi, hq⟩
    cases i with
    | zero => have : r = q := by simpa using hi
              exact this ▸ hq
    | succ i => simp at hi
  · intro h; exact ⟨0, r, rfl, h⟩
/-- a call that turns some regions -/
theorem M.calls {outs : List Rg} (h : M w0 S w rs) (is : List Nat) (hn : is.Nodup) (hlen : is.length = (is.filterMap (rs[·]?)).length) (hl : is.length ≤ outs.length) (k : M w (fpU (is.filterMap (rs[·]?))) w' outs) : M w0 S w' (repl rs is outs) := h.callM is hn rfl hlen hl k
end
/-! lists of lists of bytes: the heads of the inner slices, and what they hold -/
abbrev Hd := Option Addr × Nat × Nat
abbrev slv (x : Hd) : Value := .slice x.1 x.2.1 x.2.2
/-- the inner slices hold the lists -/
def Bag (w : World) (hs : List Hd) (ls : List (List UInt8)) : Prop := hs.length = ls.length ∧ ∀ (i : Nat) h l, hs[i]? = some h → ls[i]? = some l → RdL u8 w (slv h) l
theorem Bag.ext {w w' : World} {hs : List Hd} {ls : List (List UInt8)} (h : Bag w hs ls) (k : Ext w w') : Bag w' hs ls := ⟨h.1, fun i x l hx hl => (h.2 i x l hx hl).ext k⟩
theorem Bag.at {w : World} {hs : List Hd} {ls : List (List UInt8)} (h : Bag w hs ls) {i : Nat} (hi : i < ls.length) : RdL u8 w (slv (hs[i]'(by rw [h.1]; exact hi))) ls[i] := h.2 i _ _ (List.getElem?_eq_getElem _) (List.getElem?_eq_getElem _)
theorem Bag.nil (w : World) : Bag w [] [] := ⟨rfl, fun i h l hh => by simp at hh⟩
theorem Bag.push {w : World} {hs : List Hd} {ls : List (List UInt8)} {x : Hd} {l : List UInt8} (h : Bag w hs ls) (hx : RdL u8 w (slv x) l) : Bag w (hs ++ [x]) (ls ++ [l]) := by
  refine ⟨by simp [h.1], fun i y m hy hm => ?_⟩
  rcases getElem?_app hy with ⟨h1, h2⟩ | ⟨h1, h2⟩ <;> rcases getElem?_app hm with ⟨k1, k2⟩ | ⟨k1, k2⟩
  · exact h.2 i y m h2 k2
  · rw [h.1] at h1; omega
  · rw [h.1] at h1; omega
  · rw [h.1] at h2
    have e : i - ls.length = 0 := by have := (List.getElem?_eq_some_iff.1 k2).1; simp at this; omega
    rw [e] at h2 k2
    simp at h2 k2
    rw [← h2, ← k2]; exact hx
theorem Bag.take {w : World} {hs : List Hd} {ls : List (List UInt8)} (h : Bag w hs ls) (n : Nat) : Bag w (hs.take n) (ls.take n) := by
  refine ⟨by simp [h.1], fun i x l hx hl => ?_⟩
  rw [List.getElem?_take] at hx hl
  split at hx
  · rw [if_pos ‹_›] at hl; exact h.2 i x l hx hl
  · cases hx
def Rg.bag (hs : List Hd) (ls : List (List UInt8)) : Rg where
  fp k := ∃ (i : Nat) (h : Hd) (l : List UInt8), hs[i]? = some h ∧ ls[i]? = some l ∧ l ≠ [] ∧ k = (bs (slv h)).1
  ok w := Bag w hs ls
  keep {w w'} hk h := ⟨h.1, fun i x l hx hl => by
    have hr := h.2 i x l hx hl
    cases l with
    | nil => exact Rd.nil_other hr
    | cons c l => exact (Rg.rd 1 (slv x) (c :: l).length ((c :: l).map u8)).keep (fun k hfp => hk k ⟨i, x, c :: l, hx, hl, by simp, hfp.2⟩) hr⟩
  live {w} h k hk := by
    obtain ⟨i, x, l, hx, hl, hne, rfl⟩ := hk
    exact (h.2 i x l hx hl).lt (by cases l with | nil => exact (hne rfl).elim | cons _ _ => simp)
section
variable {w0 w w' : World} {S : Nat → Prop} {rs : List Rg}
theorem M.bag {hs : List Hd} {ls : List (List UInt8)} (h : M w0 S w rs) (i : Nat) (hi : rs[i]? = some (Rg.bag hs ls)) : Bag w hs ls := h.ok hi
theorem M.bagNil (h : M w0 S w rs) : M w0 S w (rs ++ [Rg.bag [] []]) := h.new (Ext.refl w) (Bag.nil w) (fun k ⟨i, x, l, hx, _⟩ => by simp at hx)
theorem own_head {e : TypeId} {v : Value} {l : List UInt8} (h : OwnL u8 w 0 e v l) : ∃ x : Hd, v = slv x := by
  rcases h.2 with ⟨rfl, _⟩ | ⟨g, cap, cur, rfl, _⟩
  · exact ⟨(none, 0, 0), rfl⟩
  · exact ⟨(_, _, _), rfl⟩
/-- a slice of the call's own is laid into the bag -/
theorem M.bagPush {hs : List Hd} {ls : List (List UInt8)} {e : TypeId} {x : Hd} {l : List UInt8} (h : M w0 S w rs) (i j : Nat) (hne : i ≠ j) (hi : rs[i]? = some (Rg.bag hs ls)) (hj : rs[j]? = some (Rg.sl u8 e (slv x) l)) : M w0 S w ((rs.set j Rg.emp).set i (Rg.bag (hs ++ [x]) (ls ++ [l]))) := by
  have hb := h.bag i hi
  refine h.join i j hne hi hj (p := Rg.bag (hs ++ [x]) (ls ++ [l])) (hb.push (h.sl j hj)) fun k ⟨a, y, m, hy, hm, hmn, hk⟩ => ?_
  rcases getElem?_app hy with ⟨h1, h2⟩ | ⟨h1, h2⟩ <;> rcases getElem?_app hm with ⟨k1, k2⟩ | ⟨k1, k2⟩
  · exact .inl ⟨a, y, m, h2, k2, hmn, hk⟩
  · rw [hb.1] at h1; omega
  · rw [hb.1] at h1; omega
  · right
    rw [hb.1] at h2
    have e0 : a - ls.length = 0 := by have := (List.getElem?_eq_some_iff.1 k2).1; simp at this; omega
    rw [e0] at h2 k2
    simp at h2 k2
    subst h2 k2
    have ho := h.own j hj
    rcases ho.2 with ⟨_, h3⟩ | ⟨g, cap, cur, hv, _⟩
    · exact (hmn (List.length_eq_zero_iff.1 h3)).elim
    · show (slv x).ownBlock = some k
      rw [hk, hv]; rfl
/-- fewer of them -/
theorem M.bagTake {hs : List Hd} {ls : List (List UInt8)} (h : M w0 S w rs) (i : Nat) (hi : rs[i]? = some (Rg.bag hs ls)) (n : Nat) : M w0 S w (rs.set i (Rg.bag (hs.take n) (ls.take n))) :=
  h.weak i hi ((h.bag i hi).take n) fun k ⟨a, x, l, hx, hl, hne, hk⟩ => by
    rw [List.getElem?_take] at hx hl
    split at hx
    · rw [if_pos ‹_›] at hl; exact ⟨a, x, l, hx, hl, hne, hk⟩
    · cases hx
/-- a slice of the call's own, cut short -/
theorem OwnL.take {α : Type} {enc : α → Value} {e : TypeId} {v v' : Value} {l : List α} {n : Nat} (h : OwnL enc w 0 e v l) (hn : n ≤ l.length) (p : Part 1 v v' 0 n) : OwnL enc w 0 e v' (l.take n) := by
  obtain ⟨a, m, cap, rfl, _, h2, rfl⟩ := p
  obtain ⟨h0, h1⟩ := h
  refine ⟨by simp, ?_⟩
  have hl : (l.take n).length = n := by rw [List.length_take]; omega
  rw [hl]
  rcases h1 with ⟨hv, h3⟩ | ⟨g, cap', cur, hv, hb, hg, k1, k2, k3, k4⟩
  · obtain ⟨rfl, rfl, rfl⟩ : a = none ∧ m = 0 ∧ cap = 0 := by simpa using hv
    obtain rfl : n = 0 := by omega
    exact .inl ⟨rfl, rfl⟩
  · obtain ⟨rfl, rfl, rfl⟩ : a = some ⟨g, 0, none⟩ ∧ m = l.length ∧ cap = cap' := by simpa using hv
    refine .inr ⟨g, cap, cur, ?_, hb, hg, by omega, k2, k3, ?_⟩
    · have e : (Addr.add ⟨g, 0, none⟩ (0 * 1)) = ⟨g, 0, none⟩ := rfl
      split <;> simp [e]
    · rw [Nat.mul_one] at k4 ⊢
      rw [List.map_take, ← k4, List.take_take, Nat.min_eq_left (by omega)]
theorem M.slTake {α : Type} {enc : α → Value} {e : TypeId} {v v' : Value} {l : List α} {n : Nat} (h : M w0 S w rs) (i : Nat) (hi : rs[i]? = some (Rg.sl enc e v l)) (hn : n ≤ l.length) (p : Part 1 v v' 0 n) : M w0 S w (rs.set i (Rg.sl enc e v' (l.take n))) :=
  h.weak i hi (OwnL.take (h.own i hi) hn p) fun k hk => by
    obtain ⟨a, m, cap, rfl, _, h2, rfl⟩ := p
    show (Value.slice a m cap).ownBlock = some k
    have hk : (Value.slice (if cap = 0 then a else a.map (·.add (0 * 1))) (n - 0) (cap - 0)).ownBlock = some k := hk
    cases a with
    | none => split at hk <;> simp [Value.ownBlock] at hk
    | some a =>
      have : (Addr.add a (0 * 1)).block = a.block := by unfold Addr.add; split <;> rfl
      split at hk
      · exact hk
      · simpa [Value.ownBlock, this] using hk
end
/-! a part of a slice, as a value -/
def partV (v : Value) (a b : Nat) : Value := match v with
  | .slice c _ cap => .slice (if cap = a then c else c.map (·.add (a * 1))) (b - a) (cap - a)
  | v => v
theorem Rd.partP {w : World} {v : Value} {sz n : Nat} {cs : List Value} {a b : Nat} (h : Rd w sz v n cs) (h1 : a ≤ b) (h2 : b ≤ n) : Part 1 v (partV v a b) a b := by
  obtain ⟨c, cap, hv, _⟩ := h
  subst hv
  exact ⟨c, n, cap, rfl, h1, h2, rfl⟩
theorem RdL.partV {α : Type} {enc : α → Value} {w : World} {v : Value} {l : List α} {a b : Nat} (h : RdL enc w v l) (h1 : a ≤ b) (h2 : b ≤ l.length) : RdL enc w (partV v a b) (cutL a b l) := h.part (Rd.partP h h1 h2)
section
variable {P : Program} {ops : Array Oper} {Q : Exit → Act → World → Prop} {Qn Lq : Act → Prop} {s : St} {env : Env} {w0 w w' : World} {S : Nat → Prop} {rs : List Rg} {rest : List Oper}
variable {d : Nat} {ty : TypeId} {pos : String} {aft : Array Edge}
theorem run_slcP {α : Type} {enc : α → Value} {l : List α} {t e : TypeId} {x : Operand} {lo hi : Option Operand} {v : Value} {k k' : IntKind} (a b : Nat) (hx : ev env x = some v)
    (hlo : lo.map (ev env) = some (some (.int k (a : Int))) ∨ (lo = none ∧ a = 0)) (hhi : hi.map (ev env) = some (some (.int k' (b : Int))) ∨ (hi = none ∧ b = l.length)) (hR : RdL enc w v l)
    (ht : P.underlying t = some (.slice e)) (hs : (P.info? e).map (·.size) = some 1) (hl : a ≤ b) (hh : b ≤ l.length) (a' : Act) (ha : Sat s a' env) (dst : Option Nat) : (execOp a'.eval ⟨dst, .slice t x lo hi none, ty, pos, aft, none⟩).run P w = .ok (.value (partV v a b)) w := by
  obtain ⟨c, cap, hv, hc, _⟩ := hR
  subst hv
  have h1 : lo.map a'.eval = some (.int k (a : Int)) ∨ (lo.map a'.eval = none ∧ a = 0) := by
    rcases hlo with hlo | ⟨rfl, h0⟩
    · cases lo with
      | none => simp at hlo
      | some y => simp at hlo; left; simp [ha.ev hlo]
    · right; exact ⟨rfl, h0⟩
  have h2 : hi.map a'.eval = some (.int k' (b : Int)) ∨ (hi.map a'.eval = none ∧ b = l.length) := by
    rcases hhi with hhi | ⟨rfl, h0⟩
    · cases hi with
      | none => simp at hhi
      | some y => simp at hhi; left; simp [ha.ev hhi]
    · right; exact ⟨rfl, h0⟩
  have := run_slice (P := P) (w := w) (a := c) ht hs h1 h2 hl hh hc
  simp [execOp, ha.ev hx, this, partV]
theorem E.slcP {α : Type} {enc : α → Value} {l : List α} {t e : TypeId} {x : Operand} {lo hi : Option Operand} {v : Value} {k k' : IntKind} (a b : Nat) (hx : ev env x = some v)
    (hlo : lo.map (ev env) = some (some (.int k (a : Int))) ∨ (lo = none ∧ a = 0)) (hhi : hi.map (ev env) = some (some (.int k' (b : Int))) ∨ (hi = none ∧ b = l.length)) (hR : RdL enc w v l)
    (ht : P.underlying t = some (.slice e)) (hs : (P.info? e).map (·.size) = some 1) (hl : a ≤ b) (hh : b ≤ l.length) (hd : Nat.blt d s.n = true)
    (h : wpE P ops Q s rest ((d, partV v a b) :: env) w) : wpE P ops Q s (⟨some d, .slice t x lo hi none, ty, pos, aft, none⟩ :: rest) env w :=
  E.op (fun a' ha => run_slcP a b hx hlo hhi hR ht hs hl hh a' ha _) hd h
theorem Q.slcP {α : Type} {enc : α → Value} {l : List α} {t e : TypeId} {x : Operand} {lo hi : Option Operand} {v : Value} {k k' : IntKind} (a b : Nat) (hx : ev env x = some v)
    (hlo : lo.map (ev env) = some (some (.int k (a : Int))) ∨ (lo = none ∧ a = 0)) (hhi : hi.map (ev env) = some (some (.int k' (b : Int))) ∨ (hi = none ∧ b = l.length)) (hR : RdL enc w v l)
    (ht : P.underlying t = some (.slice e)) (hs : (P.info? e).map (·.size) = some 1) (hl : a ≤ b) (hh : b ≤ l.length) (hd : Nat.blt d s.n = true)
    (h : wpQ P ops w Qn s rest ((d, partV v a b) :: env)) : wpQ P ops w Qn s (⟨some d, .slice t x lo hi none, ty, pos, aft, none⟩ :: rest) env :=
  Q.op (fun w' hw' a' ha => run_slcP a b hx hlo hhi (hR.ext hw') ht hs hl hh a' ha _) hd h
theorem Y.slcP {α : Type} {enc : α → Value} {l : List α} {t e : TypeId} {x : Operand} {lo hi : Option Operand} {v : Value} {k k' : IntKind} (a b : Nat) (hx : ev env x = some v)
    (hlo : lo.map (ev env) = some (some (.int k (a : Int))) ∨ (lo = none ∧ a = 0)) (hhi : hi.map (ev env) = some (some (.int k' (b : Int))) ∨ (hi = none ∧ b = l.length)) (hR : RdL enc w v l)
    (ht : P.underlying t = some (.slice e)) (hs : (P.info? e).map (·.size) = some 1) (hl : a ≤ b) (hh : b ≤ l.length) : Yld P ops s env w ⟨some d, .slice t x lo hi none, ty, pos, aft, none⟩ (partV v a b) :=
  Yld.of (fun a' ha => run_slcP a b hx hlo hhi hR ht hs hl hh a' ha _)
end
end Go.Proofs.YtcmgbjmcklfkcaaDoor.Sym

/- Deflate, as plain mathematics: bits, bytes. -/
namespace Go.Proofs.YtcmgbjmcklfkcaaDoor
set_option linter.unusedSimpArgs false
set_option linter.unusedVariables false
open Sym
namespace Df
/-- the number of n bits, the first one the least -/
def bv (f : Nat → Bool) : Nat → Nat
  | 0 => 0
  | n + 1 => bv f n + if f n then 2 ^ n else 0
theorem bv_lt (f : Nat → Bool) (n : Nat) : bv f n < 2 ^ n := by
  induction n with
  | zero => simp [bv]
  | succ n ih => rw [bv, Nat.pow_succ]; split <;> omega
theorem bv_congr {f g : Nat → Bool} {n : Nat} (h : ∀ i, i < n → f i = g i) : bv f n = bv g n := by
  induction n with
  | zero => rfl
  | succ n ih => rw [bv, bv, ih (fun i hi => h i (by omega)), h n (by omega)]
theorem bv_off {f : Nat → Bool} {n m : Nat} (h : n ≤ m) (hf : ∀ i, n ≤ i → i < m → f i = false) : bv f m = bv f n := by
  induction m with
  | zero => obtain rfl : n = 0 := by omega
            rfl
  | succ m ih =>
    by_cases e : n = m + 1
    · subst e; rfl
    · rw [bv, ih (by omega) (fun i h1 h2 => hf i h1 (by omega)), hf m (by omega) (by omega)]; simp
/-- bit i of a number -/
def bit (v i : Nat) : Bool := decide (v / 2 ^ i % 2 = 1)
theorem bit_ite (v i : Nat) : (if bit v i then 2 ^ i else 0) = v / 2 ^ i % 2 * 2 ^ i := by
  unfold bit
  by_cases h : v / 2 ^ i % 2 = 1
  · rw [if_pos (decide_eq_true h), h, Nat.one_mul]
  · have : v / 2 ^ i % 2 = 0 := by omega
    rw [if_neg (by rw [decide_eq_true_eq]; exact h), this, Nat.zero_mul]
theorem bv_bit (v n : Nat) : bv (bit v) n = v % 2 ^ n := by
  induction n with
  | zero => simp [bv, Nat.mod_one]
  | succ n ih =>
    rw [bv, ih, bit_ite, Nat.pow_succ, Nat.mod_mul]
    rw [Nat.mul_comm (v / 2 ^ n % 2)]
theorem bit_lt {v i n : Nat} (h : v < 2 ^ n) (hi : n ≤ i) : bit v i = false := by
  unfold bit
  rw [Nat.div_eq_of_lt (Nat.lt_of_lt_of_le h (Nat.pow_le_pow_right (by decide) hi))]; rfl
theorem bit_bv {f : Nat → Bool} : ∀ {n i : Nat}, i < n → bit (bv f n) i = f i := by
  intro n
  induction n with
  | zero => intro i h; omega
  | succ n ih =>
    intro i hi
    have hlt := bv_lt f n
    by_cases e : i = n
    · subst e
      unfold bit
      rw [bv]
      by_cases h : f i = true
      · rw [if_pos h, Nat.add_div_right _ (Nat.pow_pos (by decide)), Nat.div_eq_of_lt hlt, h]; rfl
      · rw [if_neg h, Nat.add_zero, Nat.div_eq_of_lt hlt, Bool.eq_false_iff.2 h]; rfl
    · rw [← ih (show i < n by omega)]
      unfold bit
      rw [bv]
      split
      · have : bv f n + 2 ^ n = bv f n + 2 ^ i * (2 * 2 ^ (n - i - 1)) := by
          rw [← Nat.pow_succ', ← Nat.pow_add]; congr 2; omega
        rw [this, Nat.add_mul_div_left _ _ (Nat.pow_pos (by decide)), Nat.add_mul_mod_self_left]
      · rfl
/-- the n low bits of a number -/
def low (v n : Nat) : List Bool := tab n (bit v)
theorem low_len (v n : Nat) : (low v n).length = n := tab_len _ _
theorem low_succ (v n : Nat) : low v (n + 1) = low v n ++ [bit v n] := tab_succ _ _
/-- a byte of bits -/
def pb (B : List Bool) (k : Nat) : Nat := bv (fun i => B.getD (8 * k + i) false) 8
theorem pb_lt (B : List Bool) (k : Nat) : pb B k < 256 := bv_lt _ 8
/-- the bytes of bits -/
def pk (B : List Bool) : List UInt8 := tab ((B.length + 7) / 8) fun k => UInt8.ofNat (pb B k)
theorem pk_len (B : List Bool) : (pk B).length = (B.length + 7) / 8 := tab_len _ _
/-- with a byte for one more bit -/
def pkx (B : List Bool) : List UInt8 := tab (B.length / 8 + 1) fun k => UInt8.ofNat (pb B k)
theorem pkx_len (B : List Bool) : (pkx B).length = B.length / 8 + 1 := tab_len _ _
theorem pb_r (B : List Bool) : pb B (B.length / 8) < 2 ^ (B.length % 8) := by
  unfold pb
  rw [bv_off (n := B.length % 8) (by omega) (fun i h1 h2 => by rw [List.getD_eq_getElem?_getD, List.getElem?_eq_none (by omega)]; rfl)]
  exact bv_lt _ _
theorem pkx_new {B : List Bool} (h : B.length % 8 = 0) : pk B ++ [0] = pkx B := by
  have hr := pb_r B
  rw [h, Nat.pow_zero] at hr
  have h0 : pb B (B.length / 8) = 0 := by omega
  unfold pk pkx
  rw [tab_succ, show (B.length + 7) / 8 = B.length / 8 by omega, h0]; rfl
theorem pkx_old {B : List Bool} (h : ¬ B.length % 8 = 0) : pk B = pkx B := by
  unfold pk pkx
  rw [show (B.length + 7) / 8 = B.length / 8 + 1 by omega]
theorem pkx_get {B : List Bool} (h : B.length / 8 < (pkx B).length) : ((pkx B)[B.length / 8]).toNat = pb B (B.length / 8) := by
  have h1 : (pkx B)[B.length / 8]? = some (UInt8.ofNat (pb B (B.length / 8))) := tab_get (by omega)
  rw [List.getElem?_eq_getElem h, Option.some.injEq] at h1
  rw [h1]
  have := pb_lt B (B.length / 8)
  simp; omega
theorem getD_snoc (B : List Bool) (x : Bool) (i : Nat) : (B ++ [x]).getD i false = if i = B.length then x else B.getD i false := by
  rw [List.getD_eq_getElem?_getD, List.getD_eq_getElem?_getD]
  by_cases h : i < B.length
  · rw [List.getElem?_append_left h, if_neg (by omega)]
  · rw [List.getElem?_append_right (by omega)]
    by_cases e : i = B.length
    · subst e; simp
    · rw [if_neg e, List.getElem?_eq_none (by simp; omega), List.getElem?_eq_none (by omega)]
theorem pb_snoc_lo {B : List Bool} {x : Bool} {k : Nat} (h : k < B.length / 8) : pb (B ++ [x]) k = pb B k := by
  unfold pb
  refine bv_congr fun i hi => ?_
  rw [getD_snoc, if_neg (by omega)]
theorem pb_snoc {B : List Bool} {x : Bool} : pb (B ++ [x]) (B.length / 8) = pb B (B.length / 8) + if x then 2 ^ (B.length % 8) else 0 := by
  have hd : 8 * (B.length / 8) + B.length % 8 = B.length := Nat.div_add_mod B.length 8
  unfold pb
  rw [bv_off (n := B.length % 8 + 1) (m := 8) (by omega) (fun i h1 h2 => by rw [getD_snoc, if_neg (by omega), List.getD_eq_getElem?_getD, List.getElem?_eq_none (by omega)]; rfl)]
  rw [bv_off (f := fun i => B.getD (8 * (B.length / 8) + i) false) (n := B.length % 8) (m := 8) (by omega) (fun i h1 h2 => by rw [List.getD_eq_getElem?_getD, List.getElem?_eq_none (by omega)]; rfl)]
  rw [bv, getD_snoc, if_pos hd]
  congr 1
  refine bv_congr fun i hi => ?_
  rw [getD_snoc, if_neg (by omega)]
/-- one more bit -/
theorem pkx_put (B : List Bool) (x : Bool) : (pkx B).set (B.length / 8) (UInt8.ofNat (pb B (B.length / 8) + if x then 2 ^ (B.length % 8) else 0)) = pk (B ++ [x]) := by
  apply List.ext_getElem?
  intro j
  have hpl : (pk (B ++ [x])).length = B.length / 8 + 1 := by rw [pk_len, List.length_append, List.length_singleton]; omega
  by_cases hj : j < B.length / 8 + 1
  · have e1 : (pk (B ++ [x]))[j]? = some (UInt8.ofNat (pb (B ++ [x]) j)) := tab_get (by rw [List.length_append, List.length_singleton]; omega)
    rw [e1]
    by_cases e : j = B.length / 8
    · subst e; rw [List.getElem?_set_self (by rw [pkx_len]; omega), pb_snoc]
    · rw [List.getElem?_set_ne (fun h => e h.symm), pb_snoc_lo (by omega)]; exact tab_get hj
  · rw [List.getElem?_eq_none (by rw [List.length_set, pkx_len]; omega), List.getElem?_eq_none (by omega)]
/-- the bits of bytes -/
def ub (p : List UInt8) : List Bool := tab (8 * p.length) fun j => bit (p.getD (j / 8) 0).toNat (j % 8)
theorem ub_len (p : List UInt8) : (ub p).length = 8 * p.length := tab_len _ _
theorem ub_get {p : List UInt8} {j : Nat} (h : j < 8 * p.length) : (ub p)[j]? = some (bit (p.getD (j / 8) 0).toNat (j % 8)) := tab_get h
theorem ub_getD {p : List UInt8} {j : Nat} (h : j < 8 * p.length) : (ub p).getD j false = bit (p.getD (j / 8) 0).toNat (j % 8) := by
  rw [List.getD_eq_getElem?_getD, ub_get h]; rfl
theorem ub_app (p q : List UInt8) : ub (p ++ q) = ub p ++ ub q := by
  apply List.ext_getElem?
  intro j
  by_cases h1 : j < 8 * p.length
  · rw [List.getElem?_append_left (by rw [ub_len]; exact h1), ub_get h1, ub_get (by rw [List.length_append]; omega)]
    rw [List.getD_eq_getElem?_getD, List.getElem?_append_left (by omega), ← List.getD_eq_getElem?_getD]
  · rw [List.getElem?_append_right (by rw [ub_len]; omega), ub_len]
    by_cases h2 : j < 8 * (p ++ q).length
    · rw [List.length_append] at h2
      rw [ub_get (by rw [List.length_append]; omega), ub_get (by omega)]
      rw [List.getD_eq_getElem?_getD, List.getElem?_append_right (by omega), ← List.getD_eq_getElem?_getD]
      rw [show j / 8 - p.length = (j - 8 * p.length) / 8 by omega, show j % 8 = (j - 8 * p.length) % 8 by omega]
    · rw [List.getElem?_eq_none (by rw [ub_len]; omega), List.getElem?_eq_none (by rw [ub_len]; rw [List.length_append] at h2; omega)]
/-- the bytes of bits have the bits, and zeros behind them -/
theorem ub_pk (B : List Bool) : ub (pk B) = B ++ List.replicate (8 * ((B.length + 7) / 8) - B.length) false := by
  apply List.ext_getElem?
  intro j
  by_cases h : j < 8 * ((B.length + 7) / 8)
  · rw [ub_get (by rw [pk_len]; exact h)]
    have e : (pk B).getD (j / 8) 0 = UInt8.ofNat (pb B (j / 8)) := by
      have : (pk B)[j / 8]? = some (UInt8.ofNat (pb B (j / 8))) := tab_get (by omega)
      rw [List.getD_eq_getElem?_getD, this]; rfl
    have e2 : (UInt8.ofNat (pb B (j / 8))).toNat = pb B (j / 8) := by have := pb_lt B (j / 8); simp; omega
    rw [e, e2]
    unfold pb
    rw [bit_bv (Nat.mod_lt _ (by decide)), show 8 * (j / 8) + j % 8 = j from Nat.div_add_mod j 8]
    by_cases hB : j < B.length
    · rw [List.getElem?_append_left hB, List.getD_eq_getElem?_getD, List.getElem?_eq_getElem hB]; rfl
    · rw [List.getElem?_append_right (by omega), List.getElem?_replicate, if_pos (by omega), List.getD_eq_getElem?_getD, List.getElem?_eq_none (by omega)]; rfl
  · rw [List.getElem?_eq_none (by rw [ub_len, pk_len]; omega), List.getElem?_eq_none (by rw [List.length_append, List.length_replicate]; omega)]
/-- n bits from a place on, as a number -/
def bs (B : List Bool) (a n : Nat) : Nat := bv (fun i => B.getD (a + i) false) n
theorem bs_succ (B : List Bool) (a n : Nat) : bs B a (n + 1) = bs B a n + if B.getD (a + n) false then 2 ^ n else 0 := rfl
theorem bs_lt (B : List Bool) (a n : Nat) : bs B a n < 2 ^ n := bv_lt _ n
theorem drop_getD {B m r : List Bool} {a i : Nat} (h : B.drop a = m ++ r) (hi : i < m.length) : B.getD (a + i) false = m.getD i false := by
  rw [List.getD_eq_getElem?_getD, ← List.getElem?_drop, h, List.getElem?_append_left hi, ← List.getD_eq_getElem?_getD]
theorem bs_low {B r : List Bool} {a v n : Nat} (h : B.drop a = low v n ++ r) (hv : v < 2 ^ n) : bs B a n = v := by
  unfold bs
  rw [bv_congr (g := bit v) (fun i hi => by
    rw [drop_getD h (by rw [low_len]; exact hi), List.getD_eq_getElem?_getD]
    have : (low v n)[i]? = some (bit v i) := tab_get hi
    rw [this]; rfl), bv_bit, Nat.mod_eq_of_lt hv]
end Df
end Go.Proofs.YtcmgbjmcklfkcaaDoor
