/- finder, plain: the three marks of a code are a triple, and suggest its side. -/
import Derived.Test.YtbinlkobmlebpaaFdJx
set_option linter.unusedSimpArgs false
set_option linter.unusedVariables false
namespace Go.Proofs.Ytbinlkobmlebpaa
open Go.RowKit Sym
namespace Fi
theorem trs_mem {l : List Mk} {c r d : Nat} (hc : c < l.length) (hr : r < l.length) (hd : d < l.length) (h : okT l c r d = some (c, r, d)) : (c, r, d) ∈ trs l := by
 unfold trs t3
 refine List.mem_append_left _ (List.mem_flatMap.2 ⟨c, List.mem_range.2 hc, ?_⟩)
 unfold t2
 refine List.mem_append_left _ (List.mem_flatMap.2 ⟨r, List.mem_range.2 hr, ?_⟩)
 unfold t1
 exact List.mem_filterMap.2 ⟨d, List.mem_range.2 hd, h⟩
theorem tri_code {c r d : Mk} {lo D z : Int} (hz : 1 ≤ z) (hD : 14 * z ≤ D) (c1 : c.x = lo) (c2 : c.y = lo) (c3 : c.s = z) (r1 : r.x = lo + D) (r2 : r.y = lo) (r3 : r.s = z) (d1 : d.x = lo) (d2 : d.y = lo + D) (d3 : d.s = z) : tri c r d := by
 have e1 : r.x - c.x = D := by omega
 have e2 : r.y - c.y = 0 := by omega
 have e3 : d.x - c.x = 0 := by omega
 have e4 : d.y - c.y = D := by omega
 have hu : dt D 0 D 0 = D * D := by unfold dt; rw [Int.zero_mul, Int.add_zero]
 have hv : dt 0 D 0 D = D * D := by unfold dt; rw [Int.zero_mul, Int.zero_add]
 have huv : dt D 0 0 D = 0 := by unfold dt; rw [Int.mul_zero, Int.zero_mul, Int.add_zero]
 have h0 : 0 < D * D := Int.mul_pos (by omega) (by omega)
 have h1 : 100 * z * z ≤ D * D := by
  have h2 : (14 * z) * (14 * z) ≤ D * D := Int.mul_le_mul hD hD (by omega) (by omega)
  have h3 : (14 * z) * (14 * z) = 196 * (z * z) := by rw [Int.mul_assoc, Int.mul_left_comm z 14 z, ← Int.mul_assoc]; omega
  have h4 : 100 * z * z = 100 * (z * z) := Int.mul_assoc _ _ _
  have h5 : 0 ≤ z * z := Int.mul_nonneg (by omega) (by omega)
  omega
 unfold tri
 rw [e1, e2, e3, e4, hu, hv, huv, c3, r3, d3]
 refine ⟨by omega, by omega, by omega, by omega, ?_⟩
 rw [Int.zero_mul, Int.sub_zero]; exact h0
theorem isR_sq {D r : Int} (hD : 0 ≤ D) (h : isR (D * D) r) : r = D := isR_one h ⟨hD, Int.le_refl _, by
 rw [Int.add_mul, Int.mul_add]; omega⟩
theorem dim_code {s v : Nat} (hs : 1 ≤ s) (hv : 1 ≤ v ∧ v ≤ 6) : dim (14 * s * (10 + 4 * v)) (14 * s * (10 + 4 * v)) (14 * s) (14 * s) (14 * s) = (17 + 4 * (v : Int), 0) := by
 obtain ⟨K, hK⟩ : ∃ K : Int, K = 84 * s := ⟨_, rfl⟩
 have hp : 3 * ((14 * (s : Int) * (10 + 4 * v)) + (14 * s * (10 + 4 * v))) = K * (10 + 4 * v) := by
  rw [hK, ← Int.two_mul, ← Int.mul_assoc, ← Int.mul_assoc, ← Int.mul_assoc]; rfl
 have hq : 2 * (14 * (s : Int) + 14 * s + 14 * s) = K := by omega
 have hKp : 0 < K := by omega
 unfold dim
 simp only
 rw [hp, hq]
 have hv' : v = 1 ∨ v = 2 ∨ v = 3 ∨ v = 4 ∨ v = 5 ∨ v = 6 := by omega
 rcases hv' with rfl | rfl | rfl | rfl | rfl | rfl <;>
  (rw [if_neg (by omega)]; congr 2; congr 1; rw [← Int.mul_comm K 4, ← Int.mul_comm K 8, ← Int.mul_sub, Int.mul_ediv_mul_of_pos _ _ hKp]; rfl)
end Fi
end Go.Proofs.Ytbinlkobmlebpaa
