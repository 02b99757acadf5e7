/- parts of slices whose elements have several cells. For whatever program. -/
import Derived.Test.YtbinlkobmlebpaaC4
set_option linter.unusedSimpArgs false
set_option linter.unusedVariables false
namespace Go.Proofs.Ytbinlkobmlebpaa
open Go.RowKit Sym
namespace Sym
section
variable {P : Program} {ops : Array Oper} {Q : Exit → Act → World → Prop} {s : St} {env : Env} {w0 w : World} {S : Nat → Prop} {rs : List Rg} {rest : List Oper} {d : Nat} {ty : TypeId} {pos : String} {aft : Array Edge}
theorem flat_drop {α : Type} {enc : α → List Value} {sz : Nat} : ∀ (a : Nat) {l : List α}, (∀ x ∈ l, (enc x).length = sz) → (l.flatMap enc).drop (a * sz) = (l.drop a).flatMap enc
 | 0, l, _ => by simp
 | a + 1, [], _ => by simp
 | a + 1, x :: l, h => by
  have h1 := h x (by simp)
  rw [List.flatMap_cons, List.drop_append, List.drop_of_length_le (by rw [h1, Nat.succ_mul]; omega), List.nil_append, h1, show (a + 1) * sz - sz = a * sz by rw [Nat.succ_mul]; omega, List.drop_succ_cons]
  exact flat_drop a fun y hy => h y (by simp [hy])
theorem flat_take {α : Type} {enc : α → List Value} {sz : Nat} : ∀ (a : Nat) {l : List α}, (∀ x ∈ l, (enc x).length = sz) → (l.flatMap enc).take (a * sz) = (l.take a).flatMap enc
 | 0, l, _ => by simp
 | a + 1, [], _ => by simp
 | a + 1, x :: l, h => by
  have h1 := h x (by simp)
  rw [List.flatMap_cons, List.take_append, List.take_of_length_le (by rw [h1, Nat.succ_mul]; omega), h1, show (a + 1) * sz - sz = a * sz by rw [Nat.succ_mul]; omega, List.take_succ_cons, List.flatMap_cons]
  rw [flat_take a fun y hy => h y (by simp [hy])]
theorem RdF.part {α : Type} {enc : α → List Value} {sz a b : Nat} {v v' : Value} {l : List α} (h : RdF enc sz w v l) (p : Part sz v v' a b) (ha : a ≤ b) (hb : b ≤ l.length) : RdF enc sz w v' (cutL a b l) := by
 have h2 := Rd.ofPart h.2 p
 rw [flat_drop a h.1, flat_take (b - a) (fun x hx => h.1 x (List.mem_of_mem_drop hx))] at h2
 refine ⟨fun x hx => h.1 x (List.mem_of_mem_drop (List.mem_of_mem_take hx)), ?_⟩
 rw [cutL_len a b l ha hb]; exact h2
theorem E.slcF {α : Type} {enc : α → List Value} {sz : Nat} {l : List α} {t e : TypeId} {x : Operand} {lo hi : Option Operand} {v : Value} {k k' : IntKind} (a b : Nat) (hx : ev env x = some v)
    (hlo : lo.map (ev env) = some (some (.int k (a : Int))) ∨ (lo = none ∧ a = 0)) (hhi : hi.map (ev env) = some (some (.int k' (b : Int))) ∨ (hi = none ∧ b = l.length)) (hR : RdF enc sz w v l)
    (ht : P.underlying t = some (.slice e)) (hs : (P.info? e).map (·.size) = some sz) (hl : a ≤ b) (hh : b ≤ l.length) (hd : Nat.blt d s.n = true)
    (hK : ∀ v', Part sz v v' a b → RdF enc sz w v' (cutL a b l) → wpE P ops Q s rest ((d, v') :: env) w) : wpE P ops Q s (⟨some d, .slice t x lo hi none, ty, pos, aft, none⟩ :: rest) env w := by
  have hR0 := hR
  obtain ⟨_, c, cap, hv, hc, _⟩ := hR
  subst hv
  have hp : Part sz (.slice c l.length cap) (.slice (if cap = a then c else c.map (·.add (a * sz))) (b - a) (cap - a)) a b := ⟨c, l.length, cap, rfl, hl, hh, rfl⟩
  refine E.op (fun a' ha => ?_) hd (hK _ hp (hR0.part hp hl hh))
  have h1 : lo.map a'.eval = some (.int k (a : Int)) ∨ (lo.map a'.eval = none ∧ a = 0) := by
    rcases hlo with hlo | ⟨rfl, h0⟩
    · cases lo with
      | none => simp at hlo
      | some y => simp at hlo; left; simp [ha.ev hlo]
    · right; exact ⟨rfl, h0⟩
  have h2 : hi.map a'.eval = some (.int k' (b : Int)) ∨ (hi.map a'.eval = none ∧ b = l.length) := by
    rcases hhi with hhi | ⟨rfl, h0⟩
    · cases hi with
      | none => simp at hhi
      | some y => simp at hhi; left; simp [ha.ev hhi]
    · right; exact ⟨rfl, h0⟩
  have := run_slice (P := P) (w := w) (a := c) ht hs h1 h2 hl hh hc
  simp [execOp, ha.ev hx, this]
end
end Sym
theorem cut0 {α : Type} (k : Nat) (l : List α) : cutL 0 k l = l.take k := by simp [cutL]
theorem cutE {α : Type} (k : Nat) (l : List α) : cutL k l.length l = l.drop k := by unfold cutL; rw [List.take_of_length_le (by rw [List.length_drop]; omega)]
end Go.Proofs.Ytbinlkobmlebpaa
