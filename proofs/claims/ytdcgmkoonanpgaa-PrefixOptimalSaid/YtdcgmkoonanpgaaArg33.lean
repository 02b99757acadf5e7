/- chapter 33: the arguments of its laws. -/
import Derived.Test.YtdcgmkoonanpgaaPf1
import Derived.Test.YtdcgmkoonanpgaaTrd
namespace Go.Proofs.Ytdcgmkoonanpgaa
set_option linter.unusedSimpArgs false
set_option linter.unusedVariables false
open Go.RowKit Sym Go.ChangeShapes Go.WideShapes Go.ChangeAt

set_option maxRecDepth 100000 in
theorem arg_ints {W : World} {r : Reach} {b0 : Nat} {v : Value} (hv : Value.okWide Try.prog W r b0 67 v) (h : Trd Try.prog W 67 v.cells.toList) : ∃ l : List Int, RdL i64 W v l := by
  rw [arg_slice Try.underlying67 hv] at h
  obtain ⟨v', l, e, rd, _⟩ := h.sliceL (enc := i64) (R := fun _ => True) Try.underlying67 (by kernel_rfl) (fun c hc => by
    obtain ⟨b, hb, _⟩ := hc.int Try.underlying3
    exact ⟨b, by simpa using hb.symm, trivial⟩)
  obtain rfl : v = v' := by simpa using e
  exact ⟨l, rd⟩
set_option maxRecDepth 100000 in
theorem arg_case {W : World} {r : Reach} {b0 : Nat} {v : Value} (hv : Value.okWide Try.prog W r b0 78 v) (h : Trd Try.prog W 78 v.cells.toList) : ∃ (vb : Value) (l : List Bool) (x : Int), v = .agg #[vb, i64 x] ∧ RdL Value.bool W vb l := by
  obtain ⟨cs, rfl⟩ := agg_struct Try.underlying78 hv
  rw [agg_cells] at h
  obtain ⟨hl, hf⟩ := h.struct Try.underlying78
  obtain ⟨a0, t0, rfl, hl0⟩ := split1 (n := 1) hl
  obtain ⟨a1, t1, rfl, hl1⟩ := split1 (n := 0) hl0
  obtain rfl := List.length_eq_zero_iff.1 hl1
  obtain ⟨vd, dk, e0, rd, _⟩ := (hf 0 _ rfl).sliceL (enc := Value.bool) (R := fun _ => True) Try.underlying76 (by kernel_rfl) (fun c hc => by
    obtain ⟨b, hb⟩ := hc.bool Try.underlying4
    exact ⟨b, by simpa using hb.symm, trivial⟩)
  obtain ⟨n1, e1, _⟩ := (hf 1 _ rfl).int Try.underlying3
  have e0' : a0 = vd := by have : [a0] = [vd] := e0; simpa using this
  have e1' : a1 = .int .i64 n1 := by have : [a1] = [.int .i64 n1] := e1; simpa using this
  subst e0' e1'
  exact ⟨a0, dk, n1, rfl, rd⟩
end Go.Proofs.Ytdcgmkoonanpgaa
