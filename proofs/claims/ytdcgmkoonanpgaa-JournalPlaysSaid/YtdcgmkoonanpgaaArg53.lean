/- chapter 53: the arguments of its laws. -/
import Derived.Test.YtdcgmkoonanpgaaJn6
import Derived.Test.YtdcgmkoonanpgaaTrd
namespace Go.Proofs.Ytdcgmkoonanpgaa
set_option linter.unusedSimpArgs false
set_option linter.unusedVariables false
open Go.RowKit Sym Go.ChangeShapes Go.WideShapes Go.ChangeAt

theorem bag_of {W : World} : ∀ (hs : List Hd), (∀ h ∈ hs, ∃ l, RdL u8 W (slv h) l) → ∃ ls, Bag W hs ls
  | [], _ => ⟨[], Bag.nil W⟩
  | h :: hs, k => by
    obtain ⟨l, hl⟩ := k h (by simp)
    obtain ⟨ls, hb⟩ := bag_of hs fun x hx => k x (by simp [hx])
    refine ⟨l :: ls, by simp [hb.1], fun i x m hx hm => ?_⟩
    cases i with
    | zero =>
      have e1 : h = x := by simpa using hx
      have e2 : l = m := by simpa using hm
      subst e1 e2; exact hl
    | succ i => exact hb.2 i x m (by simpa using hx) (by simpa using hm)
theorem lists_of {W : World} {cs : List Value} (h : Trd Try.prog W 27 cs) : ∃ v hs ls, cs = [v] ∧ RdL slv W v hs ∧ Bag W hs ls := by
  obtain ⟨v, hs, e, rd, hR⟩ := h.sliceL (enc := slv) (R := fun x => ∃ l, RdL u8 W (slv x) l) Try.underlying27 (by kernel_rfl) (fun c hc => by
    obtain ⟨v, l, e, rd⟩ := hc.bytes Try.underlying22 Try.underlying5 (by kernel_rfl)
    obtain ⟨x, rfl⟩ : ∃ x : Hd, v = slv x := by obtain ⟨a, cap, hv, _⟩ := rd; exact ⟨(a, _, cap), hv⟩
    exact ⟨x, by simpa using e.symm, l, rd⟩)
  obtain ⟨ls, hb⟩ := bag_of hs hR
  exact ⟨v, hs, ls, e, rd, hb⟩
set_option maxRecDepth 100000 in
theorem arg_lists {W : World} {r : Reach} {b0 : Nat} {v : Value} (hv : Value.okWide Try.prog W r b0 27 v) (h : Trd Try.prog W 27 v.cells.toList) : ∃ hs ls, RdL slv W v hs ∧ Bag W hs ls := by
  rw [arg_slice Try.underlying27 hv] at h
  obtain ⟨v', hs, ls, e, rd, hb⟩ := lists_of h
  obtain rfl : v = v' := by simpa using e
  exact ⟨hs, ls, rd, hb⟩
end Go.Proofs.Ytdcgmkoonanpgaa
