/- chapter 53: the calls that a law is given. -/
import Derived.Test.YtdcgmkoonanpgaaArg53
import Derived.Test.YtdcgmkoonanpgaaJn12
namespace Go.Proofs.Ytdcgmkoonanpgaa
set_option linter.unusedSimpArgs false
set_option linter.unusedVariables false
open Go.RowKit Sym Go.ChangeShapes Go.WideShapes Go.ChangeAt

theorem one_int {W : World} {c : Value} (h : Trd Try.prog W 3 [c]) : ∃ n : Int, c = i64 n := by
  obtain ⟨n, e, _⟩ := h.int Try.underlying3
  exact ⟨n, by simpa using e⟩
set_option maxRecDepth 100000 in
theorem arg_acts {W : World} {r : Reach} {b0 : Nat} {v : Value} (hv : Value.okWide Try.prog W r b0 43 v) (h : Trd Try.prog W 43 v.cells.toList) : ∃ acts, RdF Ac.cells 4 W v acts ∧ ∀ a ∈ acts, RdL u8 W (slv a.ph) a.p ∧ RdL slv W (slv a.lh) a.lhs ∧ Bag W a.lhs a.l := by
  rw [arg_slice Try.underlying43 hv] at h
  obtain ⟨v', acts, e, rd, hR⟩ := h.sliceF (sz := 4) (enc := Ac.cells) (R := fun a => RdL u8 W (slv a.ph) a.p ∧ RdL slv W (slv a.lh) a.lhs ∧ Bag W a.lhs a.l) Try.underlying43 (by kernel_rfl) (by decide) (fun c hl hc => by
    obtain ⟨_, hf⟩ := hc.struct Try.underlying45
    obtain ⟨a0, t0, rfl, hl0⟩ := split1 (n := 3) hl
    obtain ⟨a1, t1, rfl, hl1⟩ := split1 (n := 2) hl0
    obtain ⟨a2, t2, rfl, hl2⟩ := split1 (n := 1) hl1
    obtain ⟨a3, t3, rfl, hl3⟩ := split1 (n := 0) hl2
    obtain rfl := List.length_eq_zero_iff.1 hl3
    obtain ⟨n0, rfl⟩ := one_int (show Trd Try.prog W 3 [a0] from hf 0 _ rfl)
    obtain ⟨n1, rfl⟩ := one_int (show Trd Try.prog W 3 [a1] from hf 1 _ rfl)
    obtain ⟨v2, l2, e2, r2⟩ := (show Trd Try.prog W 22 [a2] from hf 2 _ rfl).bytes Try.underlying22 Try.underlying5 (by kernel_rfl)
    obtain ⟨v3, hs3, ls3, e3, r3, b3⟩ := lists_of (show Trd Try.prog W 27 [a3] from hf 3 _ rfl)
    obtain rfl : a2 = v2 := by simpa using e2
    obtain rfl : a3 = v3 := by simpa using e3
    obtain ⟨x2, rfl⟩ := shape_hd r2
    obtain ⟨x3, rfl⟩ : ∃ x : Hd, a3 = slv x := by obtain ⟨a, cap, hv, _⟩ := r3; exact ⟨(a, _, cap), hv⟩
    exact ⟨⟨n0, n1, x2, l2, x3, hs3, ls3⟩, rfl, r2, r3, b3⟩)
  obtain rfl : v = v' := by simpa using e
  exact ⟨acts, rd, hR⟩
end Go.Proofs.Ytdcgmkoonanpgaa
