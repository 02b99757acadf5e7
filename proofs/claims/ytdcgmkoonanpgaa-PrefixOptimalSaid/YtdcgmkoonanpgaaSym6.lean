/- The walk by named slots: slices of elements of several cells; slices written out with one element. For whatever program. -/
import Derived.Test.YtdcgmkoonanpgaaSym5
namespace Go.Proofs.Ytdcgmkoonanpgaa.Sym
set_option linter.unusedSimpArgs false
set_option linter.unusedVariables false
open Go.RowKit

/-- a slice of elements of sz cells each, as a list -/
def RdF {α : Type} (enc : α → List Value) (sz : Nat) (w : World) (v : Value) (l : List α) : Prop := (∀ a ∈ l, (enc a).length = sz) ∧ Rd w sz v l.length (l.flatMap enc)
theorem flat_at {α : Type} (enc : α → List Value) (sz : Nat) : ∀ (l : List α), (∀ a ∈ l, (enc a).length = sz) → ∀ i j (h : i < l.length) u, j < sz → (enc l[i])[j]? = some u → (l.flatMap enc)[i * sz + j]? = some u
  | [], _, i, _, h, _, _, _ => by simp at h
  | a :: l, ha, 0, j, _, u, hj, hu => by
    have := ha a (by simp)
    rw [List.flatMap_cons, List.getElem?_append_left (by omega)]; simpa using hu
  | a :: l, ha, i + 1, j, h, u, hj, hu => by
    have h1 := ha a (by simp)
    rw [List.flatMap_cons, List.getElem?_append_right (by rw [h1, Nat.succ_mul]; omega), show (i + 1) * sz + j - (enc a).length = i * sz + j by rw [h1, Nat.succ_mul]; omega]
    exact flat_at enc sz l (fun x hx => ha x (by simp [hx])) i j (by simpa using h) u hj (by simpa using hu)
section
variable {α : Type} {enc : α → List Value} {sz : Nat} {w w' : World} {v : Value} {l : List α}
theorem RdF.rd (h : RdF enc sz w v l) : Rd w sz v l.length (l.flatMap enc) := h.2
theorem RdF.ext (h : RdF enc sz w v l) (k : Ext w w') : RdF enc sz w' v l := ⟨h.1, h.2.ext k⟩
theorem RdF.shape (h : RdF enc sz w v l) : ∃ a cap, v = .slice a l.length cap := h.2.shape
theorem RdF.le (h : RdF enc sz w v l) : l.length ≤ 9223372036854775807 := Rd.le h.2
theorem RdF.cell (h : RdF enc sz w v l) {i : Nat} (hi : i < l.length) (j : Nat) {u : Value} (hu : (enc l[i])[j]? = some u) : w.cell? (el v (i * sz + j)) = some u := by
  have hj : j < sz := by have := (List.getElem?_eq_some_iff.1 hu).1; rw [h.1 _ (List.getElem_mem hi)] at this; exact this
  exact h.2.cell (flat_at enc sz l h.1 i j hi u hj hu)
/-- at the address that indexAddr and fieldAddr yield -/
theorem RdF.cellI (h : RdF enc sz w v l) {i : Nat} (hi : i < l.length) (j : Nat) {u : Value} (hu : (enc l[i])[j]? = some u) {z : Int} (hz : z = (i : Int)) : w.cell? ⟨(bs v).1, (bs v).2 + z.toNat * sz + j, none⟩ = some u := by
  have := h.cell hi j hu
  rw [hz, show ((i : Int)).toNat = i by omega, Nat.add_assoc]; exact this
end
section
variable {P : Program} {ops : Array Oper} {Q : Exit → Act → World → Prop} {s : St} {env : Env} {w : World} {rest : List Oper}
variable {d : Nat} {ty : TypeId} {pos : String} {aft : Array Edge}
theorem OwnL.made1 {α : Type} (enc : α → Value) (w : World) (B : Nat) (e : TypeId) (a : α) (hB : B ≤ w.heap.size) : OwnL enc (w.alloc (.cells #[enc a] e)) B e (.slice (some ⟨w.heap.size, 0, none⟩) 1 1) [a] :=
  ⟨rfl, .inr ⟨w.heap.size, 1, #[enc a], rfl, hB, heap_alloc_new w _, Nat.le_refl 1, by decide, rfl, rfl⟩⟩
/-- a slice written out with one element of one cell -/
theorem E.mk1 {α : Type} {enc : α → Value} {t e : TypeId} {by_ : Nat} {x : Operand} (a : α) (hx : ev env x = some (enc a)) (ht : P.underlying t = some (.slice e)) (hE : Elem P e 1 by_) (h1 : (enc a).oneCell' = true) (B : Nat) (hB : B ≤ w.heap.size)
    (hd : Nat.blt d s.n = true) (h : ∀ v w', OwnL enc w' B e v [a] → Ext w w' → v.ownBlock = some w.heap.size → wpE P ops Q s rest ((d, v) :: env) w') : wpE P ops Q s (⟨some d, .buildSlice t 1 #[(0, x)], ty, pos, aft, none⟩ :: rest) env w :=
  E.buildS (xs := [(0, x)]) (vs := [(0, enc a)]) (e := e) (cs := [enc a]) (by simp [evp, hx]) (fun w => run_build1 ht hE (by cases h2 : enc a <;> rw [h2] at h1 <;> first | rfl | (simp [Value.oneCell'] at h1)) rfl (by decide) w) hd (h _ _ (OwnL.made1 enc w B e a hB) (Ext.new w _) rfl)
end
end Go.Proofs.Ytdcgmkoonanpgaa.Sym
