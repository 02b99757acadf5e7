/- The walk by named slots: new variables, named by their blocks. For whatever program. -/
import Derived.Test.YtdcgmkoonanpgaaSymM
namespace Go.Proofs.Ytdcgmkoonanpgaa.Sym
set_option linter.unusedSimpArgs false
set_option linter.unusedVariables false
open Go.RowKit
/-! the end of a chain of && and ||: the truth value in the slot is that of the whole condition -/
theorem leaf_f {p : Prop} [Decidable p] (h : ¬ p) : some (Value.bool false) = some (Value.bool (decide p)) := by rw [decide_eq_false h]
theorem leaf_t {p : Prop} [Decidable p] (h : p) : some (Value.bool true) = some (Value.bool (decide p)) := by rw [decide_eq_true h]
theorem leaf_d {p q : Prop} [Decidable p] [Decidable q] (h : p ↔ q) : some (Value.bool (decide p)) = some (Value.bool (decide q)) := by rw [decide_eq_decide.2 h]
section
variable {P : Program} {ops : Array Oper} {Q : Exit → Act → World → Prop} {s : St} {env : Env} {w : World} {rest : List Oper}
variable {d : Nat} {ty : TypeId} {pos : String} {aft : Array Edge}
theorem Blk.apart {w w' : World} {b : Nat} {T : TypeId} {arr : Array Value} {r : Option Nat} (h : Blk w b T arr) (g : w.grownBy w' r) (hne : r ≠ some b) : Blk w' b T arr := by
  cases r with
  | none => exact h.ext ((Ext.refl w).grown g (fun k e => by cases e))
  | some y => exact h.other g fun e => hne (by rw [e])
/-- a truth value in a slot: both ways -/
theorem E.split {l : List Oper} {b : Bool} (t : Nat) (hb : look env t = some (.bool b)) (ht : b = true → wpE P ops Q s l ((t, .bool true) :: env) w) (hf : b = false → wpE P ops Q s l ((t, .bool false) :: env) w) : wpE P ops Q s l env w := by
  cases b with
  | true => exact E.sub (Sub.cons hb (Sub.refl env)) (ht rfl)
  | false => exact E.sub (Sub.cons hb (Sub.refl env)) (hf rfl)
abbrev pv (b : Nat) : Value := .pointer (some ⟨b, 0, none⟩)
/-- a variable that a function captures or whose address is taken, from a value -/
theorem E.boxB {T : TypeId} {x : Operand} {v : Value} {cs : List Value} (hx : ev env x = some v) (hc : v.cells = cs.toArray) (hd : Nat.blt d s.n = true)
    (h : ∀ w', Blk w' w.heap.size T cs.toArray → Ext w w' → w'.heap.size = w.heap.size + 1 → wpE P ops Q s rest ((d, pv w.heap.size) :: env) w') : wpE P ops Q s (⟨some d, .box T x, ty, pos, aft, none⟩ :: rest) env w :=
  E.box hx hd (by rw [hc]; exact h _ (Blk.new w T cs.toArray) (Ext.new w _) (World.size_alloc ..))
theorem E.allocB {T : TypeId} {z : Value} {cs : List Value} (hz : (zeroValue T).run P w = .ok z w) (hc : z.cells = cs.toArray) (hd : Nat.blt d s.n = true)
    (h : ∀ w', Blk w' w.heap.size T cs.toArray → Ext w w' → w'.heap.size = w.heap.size + 1 → wpE P ops Q s rest ((d, pv w.heap.size) :: env) w') : wpE P ops Q s (⟨some d, .alloc T, ty, pos, aft, none⟩ :: rest) env w :=
  E.alloc hz hd (by rw [hc]; exact h _ (Blk.new w T cs.toArray) (Ext.new w _) (World.size_alloc ..))
/-- a variable of one cell is set -/
theorem E.storeB {t T : TypeId} {x y : Operand} {b : Nat} {u old : Value} (hx : ev env x = some (pv b)) (hy : ev env y = some u) (hs : (P.info? t).map (·.size) = some 1) (h1 : u.oneCell' = true) (hb : Blk w b T #[old])
    (h : ∀ w', Blk w' b T #[u] → w.grownBy w' (some b) → w'.heap.size = w.heap.size → wpE P ops Q s rest env w') : wpE P ops Q s (⟨none, .store t x y, ty, pos, aft, none⟩ :: rest) env w :=
  E.store hx hy hs h1 (hb.cell 0) (hb.frozen 0) (h _ (hb.set 0 u) (grown_set w ⟨b, 0, none⟩ u) (by simp))
/-- a variable of several cells is set -/
theorem E.storeBA {t T : TypeId} {x y : Operand} {b : Nat} {cs : List Value} {cur : Array Value} (hx : ev env x = some (pv b)) (hy : ev env y = some (.agg cs.toArray)) (hs : (P.info? t).map (·.size) = some cs.length) (hb : Blk w b T cur) (hl : cur.size = cs.length) (h1 : ∀ u ∈ cs, u.oneCell' = true)
    (h : ∀ w', Blk w' b T cs.toArray → w.grownBy w' (some b) → w'.heap.size = w.heap.size → wpE P ops Q s rest env w') : wpE P ops Q s (⟨none, .store t x y, ty, pos, aft, none⟩ :: rest) env w :=
  E.storeA hx hy hs hb (by omega) h1 (by
    rw [splice_all cur cs hl]
    exact h _ (hb.setRow _) ⟨rfl, rfl, rfl, by simp [World.setRow], fun i hi hne => by
      have : b ≠ i := fun e => hne (by rw [e])
      simp [World.setRow, Array.getElem?_modify, this]⟩ (by simp [World.setRow]))
/-- a new variable, set at once -/
theorem E.varB {t T ty2 : TypeId} {y : Operand} {u z : Value} {pos2 : String} {aft2 : Array Edge} (hz : (zeroValue T).run P w = .ok z w) (hc : z.cells = #[z]) (hd : Nat.blt d s.n = true) (hy : ev ((d, pv w.heap.size) :: env) y = some u) (hs : (P.info? t).map (·.size) = some 1) (h1 : u.oneCell' = true)
    (h : ∀ w', Blk w' w.heap.size T #[u] → Ext w w' → w'.heap.size = w.heap.size + 1 → wpE P ops Q s rest ((d, pv w.heap.size) :: env) w') : wpE P ops Q s (⟨some d, .alloc T, ty, pos, aft, none⟩ :: ⟨none, .store t (.tmp d) y, ty2, pos2, aft2, none⟩ :: rest) env w :=
  E.allocB (cs := [z]) hz hc hd fun w1 hb1 hx1 hs1 => E.storeB (by show look _ d = _; rw [look_cons, if_pos rfl]) hy hs h1 hb1 fun w2 hb2 hg2 hs2 => h w2 hb2 (hx1.ofGrown hg2 (Nat.le_refl _)) (by omega)
end
end Go.Proofs.Ytdcgmkoonanpgaa.Sym
