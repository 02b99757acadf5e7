/- prefix: what Lengths promises (plain). -/
import Derived.Test.YtdcgmkoonanpgaaPf31
namespace Go.Proofs.Ytdcgmkoonanpgaa
set_option linter.unusedSimpArgs false
set_option linter.unusedVariables false
open Go.RowKit Sym

def cst (fs L : List Nat) : Nat := ((List.range fs.length).map fun s => fs.getD s 0 * L.getD s 0).sum
theorem sum_le {h g : Tr → Nat} : ∀ (S : List Tr), (∀ t ∈ S, h t ≤ g t) → (S.map h).sum ≤ (S.map g).sum
  | [], _ => Nat.le_refl _
  | t :: S, hh => by
    have h1 := hh t (by simp)
    have h2 := sum_le S fun x hx => hh x (by simp [hx])
    rw [List.map_cons, List.map_cons, List.sum_cons, List.sum_cons]; omega
theorem sum_cong {h g : Tr → Nat} (S : List Tr) (hh : ∀ t ∈ S, h t = g t) : (S.map h).sum = (S.map g).sum := by rw [List.map_congr_left hh]
theorem sum_mul {h : Tr → Nat} (k : Nat) : ∀ (S : List Tr), (S.map fun t => k * h t).sum = k * (S.map h).sum
  | [] => by simp
  | t :: S => by rw [List.map_cons, List.map_cons, List.sum_cons, List.sum_cons, sum_mul k S, Nat.mul_add]
theorem sum_part {q : Nat → Bool} {h : Nat → Nat} : ∀ (l : List Nat), ((l.filter q).map h).sum ≤ (l.map h).sum
  | [] => Nat.le_refl _
  | s :: l => by
    have ih := sum_part (q := q) (h := h) l
    rw [List.map_cons, List.sum_cons, List.filter_cons]
    cases q s with
    | true => simp; exact ih
    | false => simp; omega
theorem un_pow {c m : Nat} (h1 : 1 ≤ c) (h2 : c ≤ m) (h3 : m ≤ 30) : Pf.un c = 2 ^ (30 - m) * 2 ^ (m - c) := by
  rw [Pf.un, if_neg (by omega), ← Nat.pow_add]; congr 1; omega
theorem kr_sum (o : List Nat) : Pf.kr o = ((List.range o.length).map fun s => Pf.un (o.getD s 0)).sum := by
  unfold Pf.kr
  congr 1
  apply List.ext_getElem?
  intro i
  rw [List.getElem?_map, List.getElem?_map]
  by_cases h : i < o.length
  · rw [List.getElem?_range h]; simp [h, List.getD_eq_getElem?_getD]
  · rw [List.getElem?_eq_none (show o.length ≤ i by omega), List.getElem?_eq_none (show (List.range o.length).length ≤ i by simp; omega)]; rfl
theorem mem_sx {fs : List Nat} {s : Nat} (hs : s < fs.length) (h : 0 < fs.getD s 0) : s ∈ (isort Tr.wt (sgl fs)).map sx := by
  have hp : ((isort Tr.wt (sgl fs)).map sx).Perm ((sgl fs).map sx) := (isort_perm Tr.wt _ (sgl fs) rfl).map _
  rw [hp.mem_iff, sgl_sx, List.mem_filter, List.mem_range]; exact ⟨hs, by simpa using h⟩
theorem sx_mem {fs : List Nat} {s : Nat} (h : s ∈ (isort Tr.wt (sgl fs)).map sx) : s < fs.length ∧ 0 < fs.getD s 0 := by
  obtain ⟨t, ht, rfl⟩ := List.mem_map.1 h
  have := lf_sx (isort_lf t ht); exact ⟨this.1, this.2.1⟩
/-- the symbols that the lengths count -/
theorem lens_src {fs : List Nat} {m : Nat} (hm : 1 ≤ m) (S : List Tr) (hS : S = isort Tr.wt (sgl fs)) (hc : S.length ≤ 2 ^ m) :
    ∃ F : List Nat, lens S fs.length m = bump (zeros fs.length) F ∧ (∀ t ∈ S, 1 ≤ F.count (sx t) ∧ F.count (sx t) ≤ m) ∧ (∀ s, s ∉ S.map sx → F.count s = 0) ∧ (2 ≤ S.length → (S.map fun t => 2 ^ (m - F.count (sx t))).sum = 2 ^ m) ∧ (S.length = 1 → (S.map fun t => 2 ^ (m - F.count (sx t))).sum * 2 = 2 ^ m) ∧
      (∀ c : Tr → Nat, (∀ t ∈ S, 1 ≤ c t ∧ c t ≤ m) → (S.map fun t => 2 ^ (m - c t)).sum ≤ 2 ^ m → (S.map fun t => t.wt * F.count (sx t)).sum ≤ (S.map fun t => t.wt * c t).sum) := by
  by_cases h2 : 2 ≤ S.length
  · obtain ⟨p1, p2, p3, p4, p5⟩ := pm_two hm S hS h2 hc
    exact ⟨Fk S m, by rw [lens, if_neg (by omega)], p1, p4, fun _ => p2, fun h => by omega, fun c hcc hk => p5 c (fun t ht => (hcc t ht).2) hk⟩
  · have hlf : ∀ t ∈ S, Lf fs t := by rw [hS]; exact isort_lf
    have hnd : (S.map sx).Nodup := by rw [hS]; exact isort_nd fs
    have hone : ∀ t ∈ S, (S.map sx).count (sx t) = 1 := fun t ht => by
      have h1 : (S.map sx).count (sx t) ≤ 1 := List.nodup_iff_count.1 hnd _
      have h3 := List.count_pos_iff.2 (List.mem_map_of_mem (f := sx) ht)
      omega
    refine ⟨S.map sx, ?_, fun t ht => by rw [hone t ht]; omega, fun s hs => List.count_eq_zero.2 hs, fun h => absurd h h2, fun h1 => ?_, fun c hcc _ => sum_le S fun t ht => by rw [hone t ht]; exact Nat.mul_le_mul_left _ (hcc t ht).1⟩
    · rw [lens, if_pos (by omega), ini, ← leaf_flat hlf]
      by_cases e : S.length = 1
      · rw [if_pos e]
      · rw [if_neg e, List.length_eq_zero_iff.1 (show S.length = 0 by omega)]; rfl
    · rw [sum_cong S (g := fun _ => 2 ^ (m - 1)) (fun t ht => by rw [hone t ht])]
      obtain ⟨t, rfl⟩ := List.length_eq_one_iff.1 h1
      simp only [List.map_cons, List.map_nil, List.sum_cons, List.sum_nil, Nat.add_zero]
      rw [← Nat.pow_succ]; congr 1; omega
theorem lens_law {fs : List Nat} {m : Nat} (hm : 1 ≤ m) (hm2 : m ≤ 30) (S : List Tr) (hS : S = isort Tr.wt (sgl fs)) (hc : S.length ≤ 2 ^ m) :
    ∃ L : List Nat, lens S fs.length m = nz L ∧ L.length = fs.length ∧ (∀ s, s < fs.length → (0 < fs.getD s 0 ↔ 0 < L.getD s 0) ∧ L.getD s 0 ≤ m) ∧ (2 ≤ S.length → Pf.kr L = 2 ^ 30) ∧ (S.length = 1 → Pf.kr L = 2 ^ 29) ∧
      (∀ o : List Nat, o.length = fs.length → (∀ s, s < fs.length → o.getD s 0 ≤ m ∧ (0 < fs.getD s 0 → 0 < o.getD s 0)) → Pf.kr o ≤ 2 ^ 30 → cst fs L ≤ cst fs o) := by
  obtain ⟨F, f1, f2, f3, f4, f5, f6⟩ := lens_src hm S hS hc
  have hlf : ∀ t ∈ S, Lf fs t := by rw [hS]; exact isort_lf
  have hget : ∀ s, s < fs.length → ((List.range fs.length).map fun s => F.count s).getD s 0 = F.count s := fun s hs => by
    rw [List.getD_eq_getElem?_getD, List.getElem?_map, List.getElem?_range hs]; rfl
  have h30 : 2 ^ (30 - m) * 2 ^ m = 2 ^ 30 := by rw [← Nat.pow_add]; congr 1; omega
  have hpos : 0 < 2 ^ (30 - m) := Nat.pow_pos (by decide)
  have hkL : Pf.kr ((List.range fs.length).map fun s => F.count s) = 2 ^ (30 - m) * (S.map fun t => 2 ^ (m - F.count (sx t))).sum := by
    rw [kr_sum, List.length_map, List.length_range]
    have e : ((List.range fs.length).map fun s => Pf.un (((List.range fs.length).map fun s => F.count s).getD s 0)) = (List.range fs.length).map fun s => Pf.un (F.count s) := List.map_congr_left fun s hs => by rw [hget s (List.mem_range.1 hs)]
    rw [e, sum_sgl fs (h := fun s => Pf.un (F.count s)) (fun s hs hz => by
      show Pf.un (F.count s) = 0
      rw [f3 s (by rw [hS]; intro h; have := (sx_mem h).2; omega)]; rfl), ← hS, ← sum_mul]
    exact sum_cong S fun t ht => un_pow (f2 t ht).1 (f2 t ht).2 hm2
  refine ⟨(List.range fs.length).map fun s => F.count s, ?_, by simp, fun s hs => ?_, fun h => by rw [hkL, f4 h, h30], fun h => ?_, fun o ho hoo hk => ?_⟩
  · rw [f1]
    apply List.ext_getElem?
    intro i
    by_cases h : i < fs.length
    · rw [bump_get _ _ _ (by simp [zeros]; exact h), nz, List.getElem?_map, List.getElem?_map, List.getElem?_range h]
      simp [zeros, List.getD_eq_getElem?_getD, List.getElem?_replicate, h]
    · rw [List.getElem?_eq_none (by rw [bump_len]; simp [zeros]; omega), List.getElem?_eq_none (by simp [nz]; omega)]
  · rw [hget s hs]
    by_cases h : s ∈ S.map sx
    · obtain ⟨t, ht, rfl⟩ := List.mem_map.1 h
      have h1 := f2 t ht
      have h2 := lf_sx (hlf t ht)
      exact ⟨⟨fun _ => by omega, fun _ => h2.2.1⟩, h1.2⟩
    · rw [f3 s h]
      exact ⟨⟨fun h' => (h (by rw [hS]; exact mem_sx hs h')).elim, fun h' => absurd h' (Nat.lt_irrefl _)⟩, Nat.zero_le _⟩
  · have e1 := f5 h
    have e2 : 2 ^ (30 - m) * ((S.map fun t => 2 ^ (m - F.count (sx t))).sum * 2) = 2 ^ 30 := by rw [e1, h30]
    rw [← Nat.mul_assoc, ← hkL] at e2
    have : (2 : Nat) ^ 30 = 2 ^ 29 * 2 := by decide
    omega
  · have hcL : cst fs ((List.range fs.length).map fun s => F.count s) = (S.map fun t => t.wt * F.count (sx t)).sum := by
      unfold cst
      have e : ((List.range fs.length).map fun s => fs.getD s 0 * ((List.range fs.length).map fun s => F.count s).getD s 0) = (List.range fs.length).map fun s => fs.getD s 0 * F.count s := List.map_congr_left fun s hs => by rw [hget s (List.mem_range.1 hs)]
      rw [e, sum_sgl fs (h := fun s => fs.getD s 0 * F.count s) (fun s _ hz => by show fs.getD s 0 * _ = 0; rw [hz, Nat.zero_mul]), ← hS]
      exact sum_cong S fun t ht => by rw [(lf_sx (hlf t ht)).2.2]
    have hco : cst fs o = (S.map fun t => t.wt * o.getD (sx t) 0).sum := by
      unfold cst
      rw [sum_sgl fs (h := fun s => fs.getD s 0 * o.getD s 0) (fun s _ hz => by show fs.getD s 0 * _ = 0; rw [hz, Nat.zero_mul]), ← hS]
      exact sum_cong S fun t ht => by rw [(lf_sx (hlf t ht)).2.2]
    rw [hcL, hco]
    have hct : ∀ t ∈ S, 1 ≤ o.getD (sx t) 0 ∧ o.getD (sx t) 0 ≤ m := fun t ht => by
      have h2 := lf_sx (hlf t ht)
      have h3 := hoo _ h2.1
      exact ⟨h3.2 h2.2.1, h3.1⟩
    refine f6 (fun t => o.getD (sx t) 0) hct ?_
    have hsub : 2 ^ (30 - m) * (S.map fun t => 2 ^ (m - o.getD (sx t) 0)).sum ≤ Pf.kr o := by
      rw [kr_sum, ho, ← sum_mul, sum_cong S (g := fun t => Pf.un (o.getD (sx t) 0)) (fun t ht => (un_pow (hct t ht).1 (hct t ht).2 hm2).symm)]
      have hp := perm_sum ((isort_perm Tr.wt _ (sgl fs) rfl).map fun t => Pf.un (o.getD (sx t) 0))
      rw [hS, hp]
      have e : (sgl fs).map (fun t => Pf.un (o.getD (sx t) 0)) = ((sgl fs).map sx).map fun s => Pf.un (o.getD s 0) := by rw [List.map_map]; rfl
      rw [e, sgl_sx]
      exact sum_part _
    rw [← h30] at hk
    exact Nat.le_of_mul_le_mul_left (Nat.le_trans hsub hk) hpos
theorem lnv_err {zs : List Int} {most : Int} (h : ¬ (lnv zs most).2 = 0) : (lnv zs most).1 = [] := by
  unfold lnv at *
  split
  · rfl
  · rename_i h1
    rw [if_neg h1] at h
    split
    · rfl
    · rename_i h2
      rw [if_neg h2] at h
      split
      · rfl
      · rename_i h3
        rw [if_neg h3] at h
        split
        · rfl
        · rename_i h4
          rw [if_neg h4] at h
          exact (h rfl).elim
theorem lnv_fine {zs : List Int} {most : Int} (h : (lnv zs most).2 = 0) : ∃ (fs : List Nat) (m : Nat), zs = nz fs ∧ most = (m : Int) ∧ 1 ≤ m ∧ m ≤ 30 ∧ (∀ f ∈ fs, f ≤ 1099511627776) ∧ (isort Tr.wt (sgl fs)).length ≤ 2 ^ m ∧ zs.length ≤ 4096 ∧ okr zs 1099511627776 = true ∧ (lnv zs most).1 = lens (isort Tr.wt (sgl fs)) fs.length m := by
  by_cases h1 : 4096 < zs.length
  · unfold lnv at h; rw [if_pos h1] at h; simp at h
  · by_cases h2 : okr zs 1099511627776 = true
    · by_cases h3 : most < 1 ∨ 30 < most
      · rw [lnv_rng (by omega) h2 h3] at h; simp at h
      · obtain ⟨m, rfl⟩ : ∃ m : Nat, most = (m : Int) := ⟨most.toNat, by omega⟩
        by_cases h4 : 2 ^ m < (Sg zs).length
        · rw [lnv_cap (by omega) h2 (by omega) h4] at h; simp at h
        · obtain ⟨e1, e2⟩ := toN_nz (m := 1099511627776) h2
          refine ⟨toN zs, m, e1, rfl, by omega, by omega, e2, Nat.le_of_not_lt h4, by omega, h2, ?_⟩
          rw [lnv_ok (by omega) h2 (by omega) h4, toN_len]
    · unfold lnv at h; rw [if_neg h1, if_pos h2] at h; simp at h
theorem dot_cst {fs L : List Nat} (h : L.length = fs.length) : dot (nz fs) (nz L) = (cst fs L : Int) := by
  have key : ∀ i, i ≤ fs.length → dot ((nz fs).take i) ((nz L).take i) = ((((List.range i).map fun s => fs.getD s 0 * L.getD s 0).sum : Nat) : Int) := by
    intro i
    induction i with
    | zero => intro _; simp [dot]
    | succ i ih =>
      intro hi
      have h1 : i < (nz fs).length := by rw [nz_len]; omega
      have h2 : i < (nz L).length := by rw [nz_len]; omega
      rw [dot_snoc h1 h2, ih (by omega), List.range_succ, List.map_append, List.sum_append, nz_get (by omega), nz_get (by omega)]
      simp [List.getD_eq_getElem?_getD, List.getElem?_eq_getElem (show i < fs.length by omega), List.getElem?_eq_getElem (show i < L.length by omega)]
  have := key fs.length (Nat.le_refl _)
  rw [List.take_of_length_le (by rw [nz_len]; omega), List.take_of_length_le (by rw [nz_len]; omega)] at this
  exact this
theorem used_all (fs : List Nat) : ((List.range fs.length).filter fun s => decide (0 < fs.getD s 0)).length = (isort Tr.wt (sgl fs)).length := by
  rw [← sgl_sx, List.length_map, isort_len]
end Go.Proofs.Ytdcgmkoonanpgaa
