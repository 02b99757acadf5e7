/- prefix: the reference's items. -/
import Derived.Test.YtajklleiifhipaaGreatDoorY9
set_option linter.unusedSimpArgs false
set_option linter.unusedVariables false
namespace Go.Proofs.YtajklleiifhipaaGreatDoor
open Go.RowKit Sym
namespace Sym
section
variable {P : Program} {ops : Array Oper} {Q : Exit → Act → World → Prop} {s : St} {env : Env} {w0 w : World} {S : Nat → Prop} {rs : List Rg} {rest : List Oper} {d : Nat} {ty : TypeId} {pos : String} {aft : Array Edge}
theorem flat_dropD {α : Type} {enc : α → List Value} {sz : Nat} : ∀ (a : Nat) {l : List α}, (∀ x ∈ l, (enc x).length = sz) → (l.flatMap enc).drop (a * sz) = (l.drop a).flatMap enc
 | 0, l, _ => by simp
 | a + 1, [], _ => by simp
 | a + 1, x :: l, h => by
  have h1 := h x (by simp)
  rw [List.flatMap_cons, List.drop_append, List.drop_of_length_le (by rw [h1, Nat.succ_mul]; omega), List.nil_append, h1, show (a + 1) * sz - sz = a * sz by rw [Nat.succ_mul]; omega, List.drop_succ_cons]
  exact flat_dropD a fun y hy => h y (by simp [hy])
theorem flat_take {α : Type} {enc : α → List Value} {sz : Nat} : ∀ (a : Nat) {l : List α}, (∀ x ∈ l, (enc x).length = sz) → (l.flatMap enc).take (a * sz) = (l.take a).flatMap enc
 | 0, l, _ => by simp
 | a + 1, [], _ => by simp
 | a + 1, x :: l, h => by
  have h1 := h x (by simp)
  rw [List.flatMap_cons, List.take_append, List.take_of_length_le (by rw [h1, Nat.succ_mul]; omega), h1, show (a + 1) * sz - sz = a * sz by rw [Nat.succ_mul]; omega, List.take_succ_cons, List.flatMap_cons]
  rw [flat_take a fun y hy => h y (by simp [hy])]
theorem RdF.part {α : Type} {enc : α → List Value} {sz a b : Nat} {v v' : Value} {l : List α} (h : RdF enc sz w v l) (p : Part sz v v' a b) (ha : a ≤ b) (hb : b ≤ l.length) : RdF enc sz w v' (cutL a b l) := by
 have h2 := Rd.ofPart h.2 p
 rw [flat_dropD a h.1, flat_take (b - a) (fun x hx => h.1 x (List.mem_of_mem_drop hx))] at h2
 refine ⟨fun x hx => h.1 x (List.mem_of_mem_drop (List.mem_of_mem_take hx)), ?_⟩
 rw [cutL_len a b l ha hb]; exact h2
end
end Sym
end Go.Proofs.YtajklleiifhipaaGreatDoor
