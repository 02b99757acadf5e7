/- chapter 38: the arguments of its laws. -/
import Derived.Test.YtnnmebpahickhaaLaw38b
import Derived.Test.YtnnmebpahickhaaTrd
namespace Go.Proofs.Ytnnmebpahickhaa
set_option linter.unusedSimpArgs false
set_option linter.unusedVariables false
open Go.RowKit Sym Go.ChangeShapes Go.WideShapes Go.ChangeAt

theorem arg_mat {W : World} {r : Reach} {b0 : Nat} {v : Value} (hv : Value.okWide Try.prog W r b0 24 v) (h : Trd Try.prog W 24 v.cells.toList) : ∃ (x y : Int) (vd : Value) (dk : List Bool), v = mat x y vd ∧ RdL Value.bool W vd dk := by
  obtain ⟨cs, rfl⟩ := agg_struct Try.underlying24 hv
  rw [agg_cells] at h
  obtain ⟨hl, hf⟩ := h.struct Try.underlying24
  obtain ⟨a0, t0, rfl, hl0⟩ := split1 (n := 2) hl
  obtain ⟨a1, t1, rfl, hl1⟩ := split1 (n := 1) hl0
  obtain ⟨a2, t2, rfl, hl2⟩ := split1 (n := 0) hl1
  obtain rfl := List.length_eq_zero_iff.1 hl2
  obtain ⟨n0, e0, _⟩ := (hf 0 _ rfl).int Try.underlying3
  obtain ⟨n1, e1, _⟩ := (hf 1 _ rfl).int Try.underlying3
  obtain ⟨vd, dk, e2, rd, _⟩ := (hf 2 _ rfl).sliceL (enc := Value.bool) (R := fun _ => True) Try.underlying22 (by kernel_rfl) (fun c hc => by
    obtain ⟨b, hb⟩ := hc.bool Try.underlying4
    exact ⟨b, by simpa using hb.symm, trivial⟩)
  have e0' : a0 = .int .i64 n0 := by have : [a0] = [.int .i64 n0] := e0; simpa using this
  have e1' : a1 = .int .i64 n1 := by have : [a1] = [.int .i64 n1] := e1; simpa using this
  have e2' : a2 = vd := by have : [a2] = [vd] := e2; simpa using this
  subst e0' e1' e2'
  exact ⟨n0, n1, a2, dk, rfl, rd⟩
theorem arg_ints {W : World} {r : Reach} {b0 : Nat} {v : Value} (hv : Value.okWide Try.prog W r b0 27 v) (h : Trd Try.prog W 27 v.cells.toList) : ∃ l : List Int, RdL i64 W v l := by
  rw [arg_slice Try.underlying27 hv] at h
  obtain ⟨v', l, e, rd, _⟩ := h.sliceL (enc := i64) (R := fun _ => True) Try.underlying27 (by kernel_rfl) (fun c hc => by
    obtain ⟨b, hb, _⟩ := hc.int Try.underlying3
    exact ⟨b, by simpa using hb.symm, trivial⟩)
  obtain rfl : v = v' := by simpa using e
  exact ⟨l, rd⟩
theorem one_int {W : World} {c : Value} (h : Trd Try.prog W 3 [c]) : ∃ n : Int, c = i64 n := by
  obtain ⟨n, e, _⟩ := h.int Try.underlying3
  exact ⟨n, by simpa using e⟩
theorem arg_blob {W : World} {r : Reach} {b0 : Nat} {v : Value} (hv : Value.okWide Try.prog W r b0 38 v) (h : Trd Try.prog W 38 v.cells.toList) : ∃ a b c d e x y : Int, v = .agg #[i64 a, i64 b, i64 c, i64 d, i64 e, i64 x, i64 y] := by
  obtain ⟨cs, rfl⟩ := agg_struct Try.underlying38 hv
  rw [agg_cells] at h
  obtain ⟨hl, hf⟩ := h.struct Try.underlying38
  obtain ⟨a0, t0, rfl, hl0⟩ := split1 (n := 6) hl
  obtain ⟨a1, t1, rfl, hl1⟩ := split1 (n := 5) hl0
  obtain ⟨a2, t2, rfl, hl2⟩ := split1 (n := 4) hl1
  obtain ⟨a3, t3, rfl, hl3⟩ := split1 (n := 3) hl2
  obtain ⟨a4, t4, rfl, hl4⟩ := split1 (n := 2) hl3
  obtain ⟨a5, t5, rfl, hl5⟩ := split1 (n := 1) hl4
  obtain ⟨a6, t6, rfl, hl6⟩ := split1 (n := 0) hl5
  obtain rfl := List.length_eq_zero_iff.1 hl6
  obtain ⟨_, hb⟩ := (hf 0 _ rfl).struct Try.underlying34
  obtain ⟨_, hp⟩ := (hf 2 _ rfl).struct Try.underlying36
  obtain ⟨n0, rfl⟩ := one_int (show Trd Try.prog W 3 [a0] from hb 0 _ rfl)
  obtain ⟨n1, rfl⟩ := one_int (show Trd Try.prog W 3 [a1] from hb 1 _ rfl)
  obtain ⟨n2, rfl⟩ := one_int (show Trd Try.prog W 3 [a2] from hb 2 _ rfl)
  obtain ⟨n3, rfl⟩ := one_int (show Trd Try.prog W 3 [a3] from hb 3 _ rfl)
  obtain ⟨n4, rfl⟩ := one_int (show Trd Try.prog W 3 [a4] from hf 1 _ rfl)
  obtain ⟨n5, rfl⟩ := one_int (show Trd Try.prog W 3 [a5] from hp 0 _ rfl)
  obtain ⟨n6, rfl⟩ := one_int (show Trd Try.prog W 3 [a6] from hp 1 _ rfl)
  exact ⟨n0, n1, n2, n3, n4, n5, n6, rfl⟩
end Go.Proofs.Ytnnmebpahickhaa
