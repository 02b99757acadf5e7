/- Texts of the claim, laid together: Sym7, Mat. -/
import Derived.Test.YtnnmebpahickhaaProg
import Derived.Test.YtnnmebpahickhaaComponentsSymmetricTopMg2
/- The walk by named slots: new variables, named by their blocks. For whatever program. -/
namespace Go.Proofs.Ytnnmebpahickhaa.Sym
set_option linter.unusedSimpArgs false
set_option linter.unusedVariables false
open Go.RowKit
/-! the end of a chain of && and ||: the truth value in the slot is that of the whole condition -/
theorem leaf_f {p : Prop} [Decidable p] (h : ¬ p) : some (Value.bool false) = some (Value.bool (decide p)) := by rw [decide_eq_false h]
theorem leaf_t {p : Prop} [Decidable p] (h : p) : some (Value.bool true) = some (Value.bool (decide p)) := by rw [decide_eq_true h]
theorem leaf_d {p q : Prop} [Decidable p] [Decidable q] (h : p ↔ q) : some (Value.bool (decide p)) = some (Value.bool (decide q)) := by rw [decide_eq_decide.2 h]
section
variable {P : Program} {ops : Array Oper} {Q : Exit → Act → World → Prop} {s : St} {env : Env} {w : World} {rest : List Oper}
variable {d : Nat} {ty : TypeId} {pos : String} {aft : Array Edge}
theorem Blk.apart {w w' : World} {b : Nat} {T : TypeId} {arr : Array Value} {r : Option Nat} (h : Blk w b T arr) (g : w.grownBy w' r) (hne : r ≠ some b) : Blk w' b T arr := by
  cases r with
  | none => exact h.ext ((Ext.refl w).grown g (fun k e => by cases e))
  | some y => exact h.other g fun e => hne (by rw [e])
/-- a truth value in a slot: both ways -/
theorem E.split {l : List Oper} {b : Bool} (t : Nat) (hb : look env t = some (.bool b)) (ht : b = true → wpE P ops Q s l ((t, .bool true) :: env) w) (hf : b = false → wpE P ops Q s l ((t, .bool false) :: env) w) : wpE P ops Q s l env w := by
  cases b with
  | true => exact E.sub (Sub.cons hb (Sub.refl env)) (ht rfl)
  | false => exact E.sub (Sub.cons hb (Sub.refl env)) (hf rfl)
abbrev pv (b : Nat) : Value := .pointer (some ⟨b, 0, none⟩)
/-- a variable that a function captures or whose address is taken, from a value -/
theorem E.boxB {T : TypeId} {x : Operand} {v : Value} {cs : List Value} (hx : ev env x = some v) (hc : v.cells = cs.toArray) (hd : Nat.blt d s.n = true)
    (h : ∀ w', Blk w' w.heap.size T cs.toArray → Ext w w' → w'.heap.size = w.heap.size + 1 → wpE P ops Q s rest ((d, pv w.heap.size) :: env) w') : wpE P ops Q s (⟨some d, .box T x, ty, pos, aft, none⟩ :: rest) env w :=
  E.box hx hd (by rw [hc]; exact h _ (Blk.new w T cs.toArray) (Ext.new w _) (World.size_alloc ..))
theorem E.allocB {T : TypeId} {z : Value} {cs : List Value} (hz : (zeroValue T).run P w = .ok z w) (hc : z.cells = cs.toArray) (hd : Nat.blt d s.n = true)
    (h : ∀ w', Blk w' w.heap.size T cs.toArray → Ext w w' → w'.heap.size = w.heap.size + 1 → wpE P ops Q s rest ((d, pv w.heap.size) :: env) w') : wpE P ops Q s (⟨some d, .alloc T, ty, pos, aft, none⟩ :: rest) env w :=
  E.alloc hz hd (by rw [hc]; exact h _ (Blk.new w T cs.toArray) (Ext.new w _) (World.size_alloc ..))
/-- a variable of one cell is set -/
theorem E.storeB {t T : TypeId} {x y : Operand} {b : Nat} {u old : Value} (hx : ev env x = some (pv b)) (hy : ev env y = some u) (hs : (P.info? t).map (·.size) = some 1) (h1 : u.oneCell' = true) (hb : Blk w b T #[old])
    (h : ∀ w', Blk w' b T #[u] → w.grownBy w' (some b) → w'.heap.size = w.heap.size → wpE P ops Q s rest env w') : wpE P ops Q s (⟨none, .store t x y, ty, pos, aft, none⟩ :: rest) env w :=
  E.store hx hy hs h1 (hb.cell 0) (hb.frozen 0) (h _ (hb.set 0 u) (grown_set w ⟨b, 0, none⟩ u) (by simp))
/-- a variable of several cells is set -/
theorem E.storeBA {t T : TypeId} {x y : Operand} {b : Nat} {cs : List Value} {cur : Array Value} (hx : ev env x = some (pv b)) (hy : ev env y = some (.agg cs.toArray)) (hs : (P.info? t).map (·.size) = some cs.length) (hb : Blk w b T cur) (hl : cur.size = cs.length) (h1 : ∀ u ∈ cs, u.oneCell' = true)
    (h : ∀ w', Blk w' b T cs.toArray → w.grownBy w' (some b) → w'.heap.size = w.heap.size → wpE P ops Q s rest env w') : wpE P ops Q s (⟨none, .store t x y, ty, pos, aft, none⟩ :: rest) env w :=
  E.storeA hx hy hs hb (by omega) h1 (by
    rw [splice_all cur cs hl]
    exact h _ (hb.setRow _) ⟨rfl, rfl, rfl, by simp [World.setRow], fun i hi hne => by
      have : b ≠ i := fun e => hne (by rw [e])
      simp [World.setRow, Array.getElem?_modify, this]⟩ (by simp [World.setRow]))
/-- a new variable, set at once -/
theorem E.varB {t T ty2 : TypeId} {y : Operand} {u z : Value} {pos2 : String} {aft2 : Array Edge} (hz : (zeroValue T).run P w = .ok z w) (hc : z.cells = #[z]) (hd : Nat.blt d s.n = true) (hy : ev ((d, pv w.heap.size) :: env) y = some u) (hs : (P.info? t).map (·.size) = some 1) (h1 : u.oneCell' = true)
    (h : ∀ w', Blk w' w.heap.size T #[u] → Ext w w' → w'.heap.size = w.heap.size + 1 → wpE P ops Q s rest ((d, pv w.heap.size) :: env) w') : wpE P ops Q s (⟨some d, .alloc T, ty, pos, aft, none⟩ :: ⟨none, .store t (.tmp d) y, ty2, pos2, aft2, none⟩ :: rest) env w :=
  E.allocB (cs := [z]) hz hc hd fun w1 hb1 hx1 hs1 => E.storeB (by show look _ d = _; rw [look_cons, if_pos rfl]) hy hs h1 hb1 fun w2 hb2 hg2 hs2 => h w2 hb2 (hx1.ofGrown hg2 (Nat.le_refl _)) (by omega)
end
end Go.Proofs.Ytnnmebpahickhaa.Sym

/- Bitmaps: their sizes, and what is checked of them. -/
namespace Go.Proofs.Ytnnmebpahickhaa
set_option linter.unusedSimpArgs false
set_option linter.unusedVariables false
open Go.RowKit Sym

def okSize (W Ht : Int) : Prop := 1 ≤ W ∧ W ≤ 4096 ∧ 1 ≤ Ht ∧ Ht ≤ 4096 ∧ W * Ht ≤ 4194304
instance (W Ht : Int) : Decidable (okSize W Ht) := by unfold okSize; exact inferInstance
def okMat (W Ht : Int) (n : Nat) : Prop := okSize W Ht ∧ (n : Int) = W * Ht
instance (W Ht : Int) (n : Nat) : Decidable (okMat W Ht n) := by unfold okMat; exact inferInstance
theorem mul_small {a b : Int} (h1 : 1 ≤ a) (h2 : a ≤ 4096) (h3 : 1 ≤ b) (h4 : b ≤ 4096) : 0 ≤ a * b ∧ a * b ≤ 16777216 :=
  ⟨Int.mul_nonneg (by omega) (by omega), by have := Int.mul_le_mul h2 h4 (by omega) (by omega); omega⟩
/-- a bitmap as a value -/
abbrev mat (W Ht : Int) (vd : Value) : Value := .agg #[i64 W, i64 Ht, vd]

theorem possible_ret (W Ht : Int) (w : World) :
    Ret Try.prog 45 #[i64 W, i64 Ht] w fun v w' => v = .bool (decide (okSize W Ht)) ∧ w = w' := by
  refine enter Try.func45 rfl (by kernel_rfl) Try.ntmps45 rfl ?_
  refine C.seq <| C.region <| E.asg rfl rfl <| E.nil <| X.next <| C.seq <| C.region <| E.mv rfl rfl <| E.bin rfl rfl rfl rfl <| E.mv rfl rfl <| ?_
  refine E.split 7 rfl (fun g7 => ?_) (fun g7 => ?_)
  case' refine_2 =>
    refine E.off rfl rfl rfl rfl <| E.off rfl rfl rfl rfl <| E.pick rfl rfl rfl <| E.mv rfl rfl <| E.off rfl rfl rfl rfl <| E.off rfl rfl rfl rfl <| E.pick rfl rfl rfl <| E.mv rfl rfl <| E.off rfl rfl rfl rfl <| E.off rfl rfl rfl rfl <| E.pick rfl rfl rfl <| E.mv rfl rfl <| E.off rfl rfl rfl rfl <| E.off rfl rfl rfl rfl <| E.off rfl rfl rfl rfl <| E.off rfl rfl rfl rfl <| E.pick rfl rfl rfl <| E.asg rfl rfl <| E.nil <| X.next <| C.ret <| ret1 rfl rfl ?_
    have := of_decide_eq_false g7
    exact ⟨by rw [decide_eq_false]; unfold okSize; omega, rfl⟩
  have h7 := of_decide_eq_true g7
  refine E.on rfl rfl (E.mv rfl rfl ?_)
  refine E.on rfl rfl (E.bin rfl rfl rfl rfl ?_)
  refine E.pick rfl rfl rfl <| E.mv rfl rfl <| ?_
  refine E.split 11 rfl (fun g11 => ?_) (fun g11 => ?_)
  case' refine_2 =>
    refine E.off rfl rfl rfl rfl <| E.off rfl rfl rfl rfl <| E.pick rfl rfl rfl <| E.mv rfl rfl <| E.off rfl rfl rfl rfl <| E.off rfl rfl rfl rfl <| E.pick rfl rfl rfl <| E.mv rfl rfl <| E.off rfl rfl rfl rfl <| E.off rfl rfl rfl rfl <| E.off rfl rfl rfl rfl <| E.off rfl rfl rfl rfl <| E.pick rfl rfl rfl <| E.asg rfl rfl <| E.nil <| X.next <| C.ret <| ret1 rfl rfl ?_
    have := of_decide_eq_false g11
    exact ⟨by rw [decide_eq_false]; unfold okSize; omega, rfl⟩
  have h11 := of_decide_eq_true g11
  refine E.on rfl rfl (E.mv rfl rfl ?_)
  refine E.on rfl rfl (E.bin rfl rfl rfl rfl ?_)
  refine E.pick rfl rfl rfl <| E.mv rfl rfl <| ?_
  refine E.split 15 rfl (fun g15 => ?_) (fun g15 => ?_)
  case' refine_2 =>
    refine E.off rfl rfl rfl rfl <| E.off rfl rfl rfl rfl <| E.pick rfl rfl rfl <| E.mv rfl rfl <| E.off rfl rfl rfl rfl <| E.off rfl rfl rfl rfl <| E.off rfl rfl rfl rfl <| E.off rfl rfl rfl rfl <| E.pick rfl rfl rfl <| E.asg rfl rfl <| E.nil <| X.next <| C.ret <| ret1 rfl rfl ?_
    have := of_decide_eq_false g15
    exact ⟨by rw [decide_eq_false]; unfold okSize; omega, rfl⟩
  have h15 := of_decide_eq_true g15
  refine E.on rfl rfl (E.mv rfl rfl ?_)
  refine E.on rfl rfl (E.bin rfl rfl rfl rfl ?_)
  refine E.pick rfl rfl rfl <| E.mv rfl rfl <| ?_
  refine E.split 19 rfl (fun g19 => ?_) (fun g19 => ?_)
  case' refine_2 =>
    refine E.off rfl rfl rfl rfl <| E.off rfl rfl rfl rfl <| E.off rfl rfl rfl rfl <| E.off rfl rfl rfl rfl <| E.pick rfl rfl rfl <| E.asg rfl rfl <| E.nil <| X.next <| C.ret <| ret1 rfl rfl ?_
    have := of_decide_eq_false g19
    exact ⟨by rw [decide_eq_false]; unfold okSize; omega, rfl⟩
  have h19 := of_decide_eq_true g19
  have hm := mul_small (a := W) (b := Ht) (by omega) (by omega) (by omega) (by omega)
  refine E.on rfl rfl (E.mv rfl rfl ?_)
  refine E.on rfl rfl (E.mv rfl rfl ?_)
  refine E.on rfl rfl (E.mul rfl rfl (by omega) rfl ?_)
  refine E.on rfl rfl (E.bin rfl rfl rfl rfl ?_)
  refine E.pick rfl rfl rfl <| E.asg rfl rfl <| E.nil <| X.next <| C.ret <| ret1 rfl rfl ?_
  exact ⟨congrArg Value.bool (decide_eq_decide.2 (by unfold okSize; omega)), rfl⟩
theorem fits_ret (W Ht : Int) (w : World) :
    Ret Try.prog 44 #[i64 W, i64 Ht] w fun v w' => v = .bool (decide (okSize W Ht)) ∧ w = w' := by
  refine enter Try.func44 rfl (by kernel_rfl) Try.ntmps44 rfl ?_
  refine C.seq <| C.region <| E.asg rfl rfl <| E.nil <| X.next <| C.seq <| C.region <| E.mv rfl rfl <| E.bin rfl rfl rfl rfl <| E.mv rfl rfl <| ?_
  refine E.split 7 rfl (fun g7 => ?_) (fun g7 => ?_)
  case' refine_2 =>
    refine E.off rfl rfl rfl rfl <| E.off rfl rfl rfl rfl <| E.pick rfl rfl rfl <| E.mv rfl rfl <| E.off rfl rfl rfl rfl <| E.off rfl rfl rfl rfl <| E.pick rfl rfl rfl <| E.mv rfl rfl <| E.off rfl rfl rfl rfl <| E.off rfl rfl rfl rfl <| E.pick rfl rfl rfl <| E.mv rfl rfl <| E.off rfl rfl rfl rfl <| E.off rfl rfl rfl rfl <| E.off rfl rfl rfl rfl <| E.off rfl rfl rfl rfl <| E.pick rfl rfl rfl <| E.asg rfl rfl <| E.nil <| X.next <| C.ret <| ret1 rfl rfl ?_
    have := of_decide_eq_false g7
    exact ⟨by rw [decide_eq_false]; unfold okSize; omega, rfl⟩
  have h7 := of_decide_eq_true g7
  refine E.on rfl rfl (E.mv rfl rfl ?_)
  refine E.on rfl rfl (E.bin rfl rfl rfl rfl ?_)
  refine E.pick rfl rfl rfl <| E.mv rfl rfl <| ?_
  refine E.split 11 rfl (fun g11 => ?_) (fun g11 => ?_)
  case' refine_2 =>
    refine E.off rfl rfl rfl rfl <| E.off rfl rfl rfl rfl <| E.pick rfl rfl rfl <| E.mv rfl rfl <| E.off rfl rfl rfl rfl <| E.off rfl rfl rfl rfl <| E.pick rfl rfl rfl <| E.mv rfl rfl <| E.off rfl rfl rfl rfl <| E.off rfl rfl rfl rfl <| E.off rfl rfl rfl rfl <| E.off rfl rfl rfl rfl <| E.pick rfl rfl rfl <| E.asg rfl rfl <| E.nil <| X.next <| C.ret <| ret1 rfl rfl ?_
    have := of_decide_eq_false g11
    exact ⟨by rw [decide_eq_false]; unfold okSize; omega, rfl⟩
  have h11 := of_decide_eq_true g11
  refine E.on rfl rfl (E.mv rfl rfl ?_)
  refine E.on rfl rfl (E.bin rfl rfl rfl rfl ?_)
  refine E.pick rfl rfl rfl <| E.mv rfl rfl <| ?_
  refine E.split 15 rfl (fun g15 => ?_) (fun g15 => ?_)
  case' refine_2 =>
    refine E.off rfl rfl rfl rfl <| E.off rfl rfl rfl rfl <| E.pick rfl rfl rfl <| E.mv rfl rfl <| E.off rfl rfl rfl rfl <| E.off rfl rfl rfl rfl <| E.off rfl rfl rfl rfl <| E.off rfl rfl rfl rfl <| E.pick rfl rfl rfl <| E.asg rfl rfl <| E.nil <| X.next <| C.ret <| ret1 rfl rfl ?_
    have := of_decide_eq_false g15
    exact ⟨by rw [decide_eq_false]; unfold okSize; omega, rfl⟩
  have h15 := of_decide_eq_true g15
  refine E.on rfl rfl (E.mv rfl rfl ?_)
  refine E.on rfl rfl (E.bin rfl rfl rfl rfl ?_)
  refine E.pick rfl rfl rfl <| E.mv rfl rfl <| ?_
  refine E.split 19 rfl (fun g19 => ?_) (fun g19 => ?_)
  case' refine_2 =>
    refine E.off rfl rfl rfl rfl <| E.off rfl rfl rfl rfl <| E.off rfl rfl rfl rfl <| E.off rfl rfl rfl rfl <| E.pick rfl rfl rfl <| E.asg rfl rfl <| E.nil <| X.next <| C.ret <| ret1 rfl rfl ?_
    have := of_decide_eq_false g19
    exact ⟨by rw [decide_eq_false]; unfold okSize; omega, rfl⟩
  have h19 := of_decide_eq_true g19
  have hm := mul_small (a := W) (b := Ht) (by omega) (by omega) (by omega) (by omega)
  refine E.on rfl rfl (E.mv rfl rfl ?_)
  refine E.on rfl rfl (E.mv rfl rfl ?_)
  refine E.on rfl rfl (E.mul rfl rfl (by omega) rfl ?_)
  refine E.on rfl rfl (E.bin rfl rfl rfl rfl ?_)
  refine E.pick rfl rfl rfl <| E.asg rfl rfl <| E.nil <| X.next <| C.ret <| ret1 rfl rfl ?_
  exact ⟨congrArg Value.bool (decide_eq_decide.2 (by unfold okSize; omega)), rfl⟩
theorem Check_ret (W Ht : Int) (vd : Value) (n : Nat) (w : World) (hv : ∃ a cap, vd = .slice a n cap) :
    Ret Try.prog 35 #[mat W Ht vd] w fun v w' => v = i64 (if okMat W Ht n then 0 else 1) ∧ Ext w w' := by
  refine enter Try.func35 rfl (by kernel_rfl) Try.ntmps35 rfl ?_
  refine C.seq <| C.region <| ?_
  refine E.boxB (cs := [i64 W, i64 Ht, vd]) rfl rfl rfl ?_
  intro w1 b1 x1 _
  refine E.asg rfl rfl <| E.nil <| X.next <| C.seq <| C.seq <| C.region <| ?_
  refine E.fld (o := 0) (sz := 0) rfl Try.underlying24 rfl rfl (by kernel_rfl) rfl ?_
  refine E.load rfl Try.underlying3 rfl (b1.cell 0) rfl ?_
  refine E.fld (o := 1) (sz := 0) rfl Try.underlying24 rfl rfl (by kernel_rfl) rfl ?_
  refine E.load rfl Try.underlying3 rfl (b1.cell 1) rfl ?_
  refine E.call rfl rfl (possible_ret W Ht _) ?_
  rintro _ _ ⟨rfl, rfl⟩
  refine E.not rfl rfl <| E.mv rfl rfl <| ?_
  refine E.split 9 rfl (fun g9 => ?_) (fun g9 => ?_)
  · refine E.off rfl rfl rfl rfl <| E.off rfl rfl rfl rfl <| E.off rfl rfl rfl rfl <| E.off rfl rfl rfl rfl <| E.off rfl rfl rfl rfl <| E.off rfl rfl rfl rfl <| E.off rfl rfl rfl rfl <| E.off rfl rfl rfl rfl <| E.off rfl rfl rfl rfl <| E.pick rfl rfl rfl <| E.nil <| X.next <| C.condT rfl <| C.seq <| C.region <| E.asg rfl rfl <| E.nil <| X.next <| C.ret <| X.retT <| ret1 rfl rfl ?_
    have hno : ¬ okSize W Ht := by simpa using g9
    exact ⟨by rw [if_neg (fun h => hno h.1)], x1⟩
  have hok : okSize W Ht := by simpa using g9
  have hm := mul_small hok.1 hok.2.1 hok.2.2.1 hok.2.2.2.1
  refine E.on rfl rfl (E.fld (o := 2) (sz := 0) rfl Try.underlying24 rfl rfl (by kernel_rfl) rfl ?_)
  refine E.on rfl rfl (E.load rfl Try.underlying22 rfl (b1.cell 2) rfl ?_)
  refine E.on rfl rfl (E.lenv rfl hv Try.underlying22 rfl ?_)
  refine E.on rfl rfl (E.fld (o := 0) (sz := 0) rfl Try.underlying24 rfl rfl (by kernel_rfl) rfl ?_)
  refine E.on rfl rfl (E.load rfl Try.underlying3 rfl (b1.cell 0) rfl ?_)
  refine E.on rfl rfl (E.fld (o := 1) (sz := 0) rfl Try.underlying24 rfl rfl (by kernel_rfl) rfl ?_)
  refine E.on rfl rfl (E.load rfl Try.underlying3 rfl (b1.cell 1) rfl ?_)
  refine E.on rfl rfl (E.mul rfl rfl (by omega) rfl ?_)
  refine E.on rfl rfl (E.bin rfl rfl rfl rfl ?_)
  refine E.pick rfl rfl rfl <| E.nil <| X.next <| ?_
  refine C.cond' rfl (fun hc => ?_) (fun hc => ?_)
  ·
    refine C.seq <| C.region <| E.asg rfl rfl <| E.nil <| X.next <| C.ret <| X.retT <| ret1 rfl rfl ?_
    exact ⟨by rw [if_neg (fun h => hc h.2)], x1⟩
  ·
    refine C.skip <| X.next <| C.seq <| C.region <| E.asg rfl rfl <| E.nil <| X.next <| C.ret <| ret1 rfl rfl ?_
    exact ⟨by rw [if_pos ⟨hok, by omega⟩], x1⟩
theorem Valid_ret (W Ht : Int) (vd : Value) (n : Nat) (w : World) (hv : ∃ a cap, vd = .slice a n cap) :
    Ret Try.prog 41 #[mat W Ht vd] w fun v w' => v = .bool (decide (okMat W Ht n)) ∧ Ext w w' := by
  refine enter Try.func41 rfl (by kernel_rfl) Try.ntmps41 rfl ?_
  refine C.seq <| C.region <| ?_
  refine E.boxB (cs := [i64 W, i64 Ht, vd]) rfl rfl rfl ?_
  intro w1 b1 x1 _
  refine E.asg rfl rfl <| E.nil <| X.next <| C.seq <| C.region <| ?_
  refine E.fld (o := 0) (sz := 0) rfl Try.underlying24 rfl rfl (by kernel_rfl) rfl ?_
  refine E.load rfl Try.underlying3 rfl (b1.cell 0) rfl ?_
  refine E.fld (o := 1) (sz := 0) rfl Try.underlying24 rfl rfl (by kernel_rfl) rfl ?_
  refine E.load rfl Try.underlying3 rfl (b1.cell 1) rfl ?_
  refine E.call rfl rfl (fits_ret W Ht _) ?_
  rintro _ _ ⟨rfl, rfl⟩
  refine E.mv rfl rfl <| ?_
  refine E.split 8 rfl (fun g8 => ?_) (fun g8 => ?_)
  case' refine_2 =>
    refine E.off rfl rfl rfl rfl <| E.off rfl rfl rfl rfl <| E.off rfl rfl rfl rfl <| E.off rfl rfl rfl rfl <| E.off rfl rfl rfl rfl <| E.off rfl rfl rfl rfl <| E.off rfl rfl rfl rfl <| E.off rfl rfl rfl rfl <| E.off rfl rfl rfl rfl <| E.pick rfl rfl rfl <| E.asg rfl rfl <| E.nil <| X.next <| C.ret <| ret1 rfl rfl ?_
    have hno : ¬ okSize W Ht := of_decide_eq_false g8
    exact ⟨by rw [decide_eq_false (fun h => hno h.1)], x1⟩
  have hok : okSize W Ht := of_decide_eq_true g8
  have hm := mul_small hok.1 hok.2.1 hok.2.2.1 hok.2.2.2.1
  refine E.on rfl rfl (E.fld (o := 2) (sz := 0) rfl Try.underlying24 rfl rfl (by kernel_rfl) rfl ?_)
  refine E.on rfl rfl (E.load rfl Try.underlying22 rfl (b1.cell 2) rfl ?_)
  refine E.on rfl rfl (E.lenv rfl hv Try.underlying22 rfl ?_)
  refine E.on rfl rfl (E.fld (o := 0) (sz := 0) rfl Try.underlying24 rfl rfl (by kernel_rfl) rfl ?_)
  refine E.on rfl rfl (E.load rfl Try.underlying3 rfl (b1.cell 0) rfl ?_)
  refine E.on rfl rfl (E.fld (o := 1) (sz := 0) rfl Try.underlying24 rfl rfl (by kernel_rfl) rfl ?_)
  refine E.on rfl rfl (E.load rfl Try.underlying3 rfl (b1.cell 1) rfl ?_)
  refine E.on rfl rfl (E.mul rfl rfl (by omega) rfl ?_)
  refine E.on rfl rfl (E.bin rfl rfl rfl rfl ?_)
  refine E.pick rfl rfl rfl <| E.asg rfl rfl <| E.nil <| X.next <| C.ret <| ret1 rfl rfl ?_
  exact ⟨congrArg Value.bool (decide_eq_decide.2 ⟨fun h => ⟨hok, h⟩, fun h => h.2⟩), x1⟩
theorem rCheck_ret (W Ht : Int) (vd : Value) (n : Nat) (w : World) (hv : ∃ a cap, vd = .slice a n cap) :
    Ret Try.prog 24 #[mat W Ht vd] w fun v w' => v = i64 (if okMat W Ht n then 0 else 1) ∧ Ext w w' := by
  refine enter Try.func24 rfl (by kernel_rfl) Try.ntmps24 rfl ?_
  refine C.seq <| C.region <| ?_
  refine E.boxB (cs := [i64 W, i64 Ht, vd]) rfl rfl rfl ?_
  intro w1 b1 x1 _
  refine E.asg rfl rfl <| E.nil <| X.next <| C.seq <| C.seq <| C.region <| ?_
  refine E.loadA rfl Try.underlying24 rfl (by kernel_rfl) (b1.at 0 [i64 W, i64 Ht, vd] (fun j u h => by simpa using h)) rfl ?_
  refine E.call rfl rfl (Valid_ret W Ht vd n _ hv) ?_
  rintro _ w2 ⟨rfl, x2⟩
  refine E.not rfl rfl <| E.nil <| X.next <| ?_
  refine C.cond rfl (fun hc => ?_) (fun hc => ?_)
  ·
    refine C.seq <| C.region <| E.asg rfl rfl <| E.nil <| X.next <| C.ret <| X.retT <| ret1 rfl rfl ?_
    exact ⟨by rw [if_neg (by simpa using hc)], x1.trans x2⟩
  ·
    refine C.skip <| X.next <| C.seq <| C.region <| E.asg rfl rfl <| E.nil <| X.next <| C.ret <| ret1 rfl rfl ?_
    exact ⟨by rw [if_pos (by simpa using hc)], x1.trans x2⟩
end Go.Proofs.Ytnnmebpahickhaa
