/- finder, plain: the colors of runs; the reference's patterns. -/
import Derived.Test.Ytbinlkobmlebpaax10
set_option linter.unusedSimpArgs false
set_option linter.unusedVariables false
namespace Go.Proofs.Ytbinlkobmlebpaa
open Go.RowKit Sym
namespace Fi
def xr (b : Bool) (j : Nat) : Bool := if j % 2 = 0 then b else !b
theorem xr_succ (b : Bool) (j : Nat) : xr b (j + 1) = !xr b j := by
 unfold xr
 rcases Nat.mod_two_eq_zero_or_one j with h | h
 · rw [if_neg (by omega), if_pos h]
 · rw [if_pos (by omega), if_neg (by omega), Bool.not_not]
theorem edg_col (c : Nat → Bool) : ∀ k, (1 ≤ k → 1 ≤ (edg c k).length ∧ c (k - 1) = xr (c 0) ((edg c k).length - 1)) ∧ ∀ j x, (edg c k)[j]? = some x → c x.toNat = xr (c 0) j
  | 0 => ⟨fun h => absurd h (by decide), fun j x h => by simp [edg] at h⟩
  | k + 1 => by
    obtain ⟨h1, h2⟩ := edg_col c k
    by_cases e : k = 0 ∨ c k ≠ c (k - 1)
    · have hc : c k = xr (c 0) (edg c k).length := by
        by_cases e0 : k = 0
        · subst e0; rfl
        · obtain ⟨a1, a2⟩ := h1 (by omega)
          have hne : c k ≠ c (k - 1) := e.resolve_left e0
          obtain ⟨L, hL⟩ : ∃ L, (edg c k).length = L + 1 := ⟨(edg c k).length - 1, by omega⟩
          rw [hL, Nat.add_sub_cancel] at a2
          rw [hL, xr_succ, ← a2]
          cases h3 : c k <;> cases h4 : c (k - 1) <;> simp_all
      rw [edg_t e]
      refine ⟨fun _ => ⟨by simp, by rw [List.length_append, List.length_singleton, Nat.add_sub_cancel, Nat.add_sub_cancel]; exact hc⟩, fun j x hj => ?_⟩
      rw [List.getElem?_append] at hj
      split at hj
      · exact h2 j x hj
      · rename_i hl
        have : j - (edg c k).length = 0 := by
          have := (List.getElem?_eq_some_iff.1 hj).1
          rw [List.length_singleton] at this; omega
        rw [this] at hj
        have hx : (k : Int) = x := by simpa using hj
        rw [← hx, Int.toNat_natCast, hc, show j = (edg c k).length by omega]
    · rw [edg_f e]
      have e0 : k ≠ 0 := fun z => e (.inl z)
      have e1 : c k = c (k - 1) := Decidable.byContradiction fun z => e (.inr z)
      obtain ⟨a1, a2⟩ := h1 (by omega)
      exact ⟨fun _ => ⟨a1, by rw [Nat.add_sub_cancel, e1]; exact a2⟩, h2⟩
theorem eds_col {c : Nat → Bool} {n i : Nat} (h : i + 1 < (eds c n).length) : ∃ e : Nat, (eds c n)[i]? = some (e : Int) ∧ e < n ∧ c e = xr (c 0) i := by
 have hl : (eds c n).length = (edg c n).length + 1 := by unfold eds; simp
 have hi : i < (edg c n).length := by omega
 have h1 := (edg_col c n).2 i (edg c n)[i] (List.getElem?_eq_getElem hi)
 have h2 := edg_mem c n _ (List.getElem_mem hi)
 refine ⟨(edg c n)[i].toNat, ?_, by omega, h1⟩
 unfold eds
 rw [List.getElem?_append_left hi, List.getElem?_eq_getElem hi]
 congr 1; omega
theorem edg_zero (c : Nat → Bool) : ∀ k, 1 ≤ k → (edg c k)[0]? = some 0
  | 0, h => absurd h (by decide)
  | k + 1, _ => by
    by_cases e : k = 0 ∨ c k ≠ c (k - 1)
    · rw [edg_t e]
      by_cases e0 : k = 0
      · subst e0; rfl
      · have := edg_zero c k (by omega)
        rw [List.getElem?_append_left (List.getElem?_eq_some_iff.1 this).1]; exact this
    · rw [edg_f e]; exact edg_zero c k (by rcases Nat.eq_zero_or_pos k with z | z; exact (e (.inl z)).elim; exact z)
theorem eds_zero {c : Nat → Bool} {n : Nat} (h : 1 ≤ n) : (eds c n)[0]? = some 0 := by
 have := edg_zero c n h
 unfold eds
 rw [List.getElem?_append_left (List.getElem?_eq_some_iff.1 this).1]; exact this
end Fi
end Go.Proofs.Ytbinlkobmlebpaa
