/- finder, plain: a pattern alone in a bitmap. -/
import Derived.Test.Ytbinlkobmlebpaax14
import Derived.Test.YtbinlkobmlebpaaFdGx
set_option linter.unusedSimpArgs false
set_option linter.unusedVariables false
namespace Go.Proofs.Ytbinlkobmlebpaa
open Go.RowKit Sym
namespace Fi
theorem edg_run {c : Nat → Bool} {L : List Int} {a : Nat} (h : edg c a = L) (h0 : a = 0 ∨ c a ≠ c (a - 1)) : ∀ {b : Nat}, a < b → (∀ k, a < k → k < b → c k = c a) → edg c b = L ++ [(a : Int)]
  | 0, hb, _ => absurd hb (Nat.not_lt_zero _)
  | b + 1, hb, hc => by
    by_cases e : b = a
    · subst e; rw [edg_t h0, h]
    · rw [edg_f (fun z => by
        rcases z with z | z
        · omega
        · by_cases e2 : b - 1 = a
          · rw [e2] at z; exact z (hc b (by omega) (by omega))
          · exact z ((hc b (by omega) (by omega)).trans (hc (b - 1) (by omega) (by omega)).symm))]
      exact edg_run h h0 (by omega) (fun k k1 k2 => hc k k1 (by omega))
def md (s k m : Nat) : Prop := m * s ≤ k ∧ k < (m + 1) * s
theorem md_div {s k m : Nat} (h : md s k m) : k / s = m := Nat.div_eq_of_lt_le h.1 h.2
end Fi
end Go.Proofs.Ytbinlkobmlebpaa
