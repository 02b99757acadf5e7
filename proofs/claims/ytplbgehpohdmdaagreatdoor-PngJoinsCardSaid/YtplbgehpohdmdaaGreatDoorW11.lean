/- Texts of the claim, laid together: Pf32, DfO. -/
import Derived.Test.YtplbgehpohdmdaaGreatDoorW6
import Derived.Test.YtplbgehpohdmdaaGreatDoorW10
set_option linter.unusedSimpArgs false
set_option linter.unusedVariables false
namespace Go.Proofs.YtplbgehpohdmdaaGreatDoor
open Go.RowKit Sym
def cst (fs L : List Nat) : Nat := ((List.range fs.length).map fun s => fs.getD s 0 * L.getD s 0).sum
theorem sum_le {h g : Tr → Nat} : ∀ (S : List Tr), (∀ t ∈ S, h t ≤ g t) → (S.map h).sum ≤ (S.map g).sum
 | [], _ => Nat.le_refl _
 | t :: S, hh => by
  have h1 := hh t (by simp)
  have h2 := sum_le S fun x hx => hh x (by simp [hx])
  rw [List.map_cons, List.map_cons, List.sum_cons, List.sum_cons]; omega
theorem sum_cong {h g : Tr → Nat} (S : List Tr) (hh : ∀ t ∈ S, h t = g t) : (S.map h).sum = (S.map g).sum := by rw [List.map_congr_left hh]
theorem sum_mul {h : Tr → Nat} (k : Nat) : ∀ (S : List Tr), (S.map fun t => k * h t).sum = k * (S.map h).sum
 | [] => by simp
 | t :: S => by rw [List.map_cons, List.map_cons, List.sum_cons, List.sum_cons, sum_mul k S, Nat.mul_add]
theorem sum_part {q : Nat → Bool} {h : Nat → Nat} : ∀ (l : List Nat), ((l.filter q).map h).sum ≤ (l.map h).sum
 | [] => Nat.le_refl _
 | s :: l => by
  have ih := sum_part (q := q) (h := h) l
  rw [List.map_cons, List.sum_cons, List.filter_cons]
  cases q s with
  | true => simp; exact ih
  | false => simp; omega
theorem un_pow {c m : Nat} (h1 : 1 ≤ c) (h2 : c ≤ m) (h3 : m ≤ 30) : Pf.un c = 2 ^ (30 - m) * 2 ^ (m - c) := by
 rw [Pf.un, if_neg (by omega), ← Nat.pow_add]; congr 1; omega
theorem kr_sum (o : List Nat) : Pf.kr o = ((List.range o.length).map fun s => Pf.un (o.getD s 0)).sum := by
 unfold Pf.kr
 congr 1
 apply List.ext_getElem?
 intro i
 rw [List.getElem?_map, List.getElem?_map]
 by_cases h : i < o.length
 · rw [List.getElem?_range h]; simp [h, List.getD_eq_getElem?_getD]
 · rw [List.getElem?_eq_none (show o.length ≤ i by omega), List.getElem?_eq_none (show (List.range o.length).length ≤ i by simp; omega)]; rfl
theorem mem_sx {fs : List Nat} {s : Nat} (hs : s < fs.length) (h : 0 < fs.getD s 0) : s ∈ (isort Tr.wt (sgl fs)).map sx := by
 have hp : ((isort Tr.wt (sgl fs)).map sx).Perm ((sgl fs).map sx) := (isort_perm Tr.wt _ (sgl fs) rfl).map _
 rw [hp.mem_iff, sgl_sx, List.mem_filter, List.mem_range]; exact ⟨hs, by simpa using h⟩
theorem sx_mem {fs : List Nat} {s : Nat} (h : s ∈ (isort Tr.wt (sgl fs)).map sx) : s < fs.length ∧ 0 < fs.getD s 0 := by
 obtain ⟨t, ht, rfl⟩ := List.mem_map.1 h
 have := lf_sx (isort_lf t ht); exact ⟨this.1, this.2.1⟩
theorem lens_src {fs : List Nat} {m : Nat} (hm : 1 ≤ m) (S : List Tr) (hS : S = isort Tr.wt (sgl fs)) (hc : S.length ≤ 2 ^ m) :
    ∃ F : List Nat, lens S fs.length m = bump (zeros fs.length) F ∧ (∀ t ∈ S, 1 ≤ F.count (sx t) ∧ F.count (sx t) ≤ m) ∧ (∀ s, s ∉ S.map sx → F.count s = 0) ∧ (2 ≤ S.length → (S.map fun t => 2 ^ (m - F.count (sx t))).sum = 2 ^ m) ∧ (S.length = 1 → (S.map fun t => 2 ^ (m - F.count (sx t))).sum * 2 = 2 ^ m) ∧
      (∀ c : Tr → Nat, (∀ t ∈ S, 1 ≤ c t ∧ c t ≤ m) → (S.map fun t => 2 ^ (m - c t)).sum ≤ 2 ^ m → (S.map fun t => t.wt * F.count (sx t)).sum ≤ (S.map fun t => t.wt * c t).sum) := by
  by_cases h2 : 2 ≤ S.length
  · obtain ⟨p1, p2, p3, p4, p5⟩ := pm_two hm S hS h2 hc
    exact ⟨Fk S m, by rw [lens, if_neg (by omega)], p1, p4, fun _ => p2, fun h => by omega, fun c hcc hk => p5 c (fun t ht => (hcc t ht).2) hk⟩
  · have hlf : ∀ t ∈ S, Lf fs t := by rw [hS]; exact isort_lf
    have hnd : (S.map sx).Nodup := by rw [hS]; exact isort_nd fs
    have hone : ∀ t ∈ S, (S.map sx).count (sx t) = 1 := fun t ht => by
      have h1 : (S.map sx).count (sx t) ≤ 1 := List.nodup_iff_count.1 hnd _
      have h3 := List.count_pos_iff.2 (List.mem_map_of_mem (f := sx) ht)
      omega
    refine ⟨S.map sx, ?_, fun t ht => by rw [hone t ht]; omega, fun s hs => List.count_eq_zero.2 hs, fun h => absurd h h2, fun h1 => ?_, fun c hcc _ => sum_le S fun t ht => by rw [hone t ht]; exact Nat.mul_le_mul_left _ (hcc t ht).1⟩
    · rw [lens, if_pos (by omega), ini, ← leaf_flat hlf]
      by_cases e : S.length = 1
      · rw [if_pos e]
      · rw [if_neg e, List.length_eq_zero_iff.1 (show S.length = 0 by omega)]; rfl
    · rw [sum_cong S (g := fun _ => 2 ^ (m - 1)) (fun t ht => by rw [hone t ht])]
      obtain ⟨t, rfl⟩ := List.length_eq_one_iff.1 h1
      simp only [List.map_cons, List.map_nil, List.sum_cons, List.sum_nil, Nat.add_zero]
      rw [← Nat.pow_succ]; congr 1; omega
theorem lens_law {fs : List Nat} {m : Nat} (hm : 1 ≤ m) (hm2 : m ≤ 30) (S : List Tr) (hS : S = isort Tr.wt (sgl fs)) (hc : S.length ≤ 2 ^ m) :
    ∃ L : List Nat, lens S fs.length m = nz L ∧ L.length = fs.length ∧ (∀ s, s < fs.length → (0 < fs.getD s 0 ↔ 0 < L.getD s 0) ∧ L.getD s 0 ≤ m) ∧ (2 ≤ S.length → Pf.kr L = 2 ^ 30) ∧ (S.length = 1 → Pf.kr L = 2 ^ 29) ∧
      (∀ o : List Nat, o.length = fs.length → (∀ s, s < fs.length → o.getD s 0 ≤ m ∧ (0 < fs.getD s 0 → 0 < o.getD s 0)) → Pf.kr o ≤ 2 ^ 30 → cst fs L ≤ cst fs o) := by
  obtain ⟨F, f1, f2, f3, f4, f5, f6⟩ := lens_src hm S hS hc
  have hlf : ∀ t ∈ S, Lf fs t := by rw [hS]; exact isort_lf
  have hget : ∀ s, s < fs.length → ((List.range fs.length).map fun s => F.count s).getD s 0 = F.count s := fun s hs => by
    rw [List.getD_eq_getElem?_getD, List.getElem?_map, List.getElem?_range hs]; rfl
  have h30 : 2 ^ (30 - m) * 2 ^ m = 2 ^ 30 := by rw [← Nat.pow_add]; congr 1; omega
  have hpos : 0 < 2 ^ (30 - m) := Nat.pow_pos (by decide)
  have hkL : Pf.kr ((List.range fs.length).map fun s => F.count s) = 2 ^ (30 - m) * (S.map fun t => 2 ^ (m - F.count (sx t))).sum := by
    rw [kr_sum, List.length_map, List.length_range]
    have e : ((List.range fs.length).map fun s => Pf.un (((List.range fs.length).map fun s => F.count s).getD s 0)) = (List.range fs.length).map fun s => Pf.un (F.count s) := List.map_congr_left fun s hs => by rw [hget s (List.mem_range.1 hs)]
    rw [e, sum_sgl fs (h := fun s => Pf.un (F.count s)) (fun s hs hz => by
      show Pf.un (F.count s) = 0
      rw [f3 s (by rw [hS]; intro h; have := (sx_mem h).2; omega)]; rfl), ← hS, ← sum_mul]
    exact sum_cong S fun t ht => un_pow (f2 t ht).1 (f2 t ht).2 hm2
  refine ⟨(List.range fs.length).map fun s => F.count s, ?_, by simp, fun s hs => ?_, fun h => by rw [hkL, f4 h, h30], fun h => ?_, fun o ho hoo hk => ?_⟩
  · rw [f1]
    apply List.ext_getElem?
    intro i
    by_cases h : i < fs.length
    · rw [bump_get _ _ _ (by simp [zeros]; exact h), nz, List.getElem?_map, List.getElem?_map, List.getElem?_range h]
      simp [zeros, List.getD_eq_getElem?_getD, List.getElem?_replicate, h]
    · rw [List.getElem?_eq_none (by rw [bump_len]; simp [zeros]; omega), List.getElem?_eq_none (by simp [nz]; omega)]
  · rw [hget s hs]
    by_cases h : s ∈ S.map sx
    · obtain ⟨t, ht, rfl⟩ := List.mem_map.1 h
      have h1 := f2 t ht
      have h2 := lf_sx (hlf t ht)
      exact ⟨⟨fun _ => by omega, fun _ => h2.2.1⟩, h1.2⟩
    · rw [f3 s h]
      exact ⟨⟨fun h' => (h (by rw [hS]; exact mem_sx hs h')).elim, fun h' => absurd h' (Nat.lt_irrefl _)⟩, Nat.zero_le _⟩
  · have e1 := f5 h
    have e2 : 2 ^ (30 - m) * ((S.map fun t => 2 ^ (m - F.count (sx t))).sum * 2) = 2 ^ 30 := by rw [e1, h30]
    rw [← Nat.mul_assoc, ← hkL] at e2
    have : (2 : Nat) ^ 30 = 2 ^ 29 * 2 := by decide
    omega
  · have hcL : cst fs ((List.range fs.length).map fun s => F.count s) = (S.map fun t => t.wt * F.count (sx t)).sum := by
      unfold cst
      have e : ((List.range fs.length).map fun s => fs.getD s 0 * ((List.range fs.length).map fun s => F.count s).getD s 0) = (List.range fs.length).map fun s => fs.getD s 0 * F.count s := List.map_congr_left fun s hs => by rw [hget s (List.mem_range.1 hs)]
      rw [e, sum_sgl fs (h := fun s => fs.getD s 0 * F.count s) (fun s _ hz => by show fs.getD s 0 * _ = 0; rw [hz, Nat.zero_mul]), ← hS]
      exact sum_cong S fun t ht => by rw [(lf_sx (hlf t ht)).2.2]
    have hco : cst fs o = (S.map fun t => t.wt * o.getD (sx t) 0).sum := by
      unfold cst
      rw [sum_sgl fs (h := fun s => fs.getD s 0 * o.getD s 0) (fun s _ hz => by show fs.getD s 0 * _ = 0; rw [hz, Nat.zero_mul]), ← hS]
      exact sum_cong S fun t ht => by rw [(lf_sx (hlf t ht)).2.2]
    rw [hcL, hco]
    have hct : ∀ t ∈ S, 1 ≤ o.getD (sx t) 0 ∧ o.getD (sx t) 0 ≤ m := fun t ht => by
      have h2 := lf_sx (hlf t ht)
      have h3 := hoo _ h2.1
      exact ⟨h3.2 h2.2.1, h3.1⟩
    refine f6 (fun t => o.getD (sx t) 0) hct ?_
    have hsub : 2 ^ (30 - m) * (S.map fun t => 2 ^ (m - o.getD (sx t) 0)).sum ≤ Pf.kr o := by
      rw [kr_sum, ho, ← sum_mul, sum_cong S (g := fun t => Pf.un (o.getD (sx t) 0)) (fun t ht => (un_pow (hct t ht).1 (hct t ht).2 hm2).symm)]
      have hp := perm_sum ((isort_perm Tr.wt _ (sgl fs) rfl).map fun t => Pf.un (o.getD (sx t) 0))
      rw [hS, hp]
      have e : (sgl fs).map (fun t => Pf.un (o.getD (sx t) 0)) = ((sgl fs).map sx).map fun s => Pf.un (o.getD s 0) := by rw [List.map_map]; rfl
      rw [e, sgl_sx]
      exact sum_part _
    rw [← h30] at hk
    exact Nat.le_of_mul_le_mul_left (Nat.le_trans hsub hk) hpos
theorem used_all (fs : List Nat) : ((List.range fs.length).filter fun s => decide (0 < fs.getD s 0)).length = (isort Tr.wt (sgl fs)).length := by
 rw [← sgl_sx, List.length_map, isort_len]
end Go.Proofs.YtplbgehpohdmdaaGreatDoor
namespace Go.Proofs.YtplbgehpohdmdaaGreatDoor
open Sym
namespace Df
theorem oln_ex : ∃ f : List Nat → Nat → List Nat, ∀ fs m, f fs m = toN (lnv (nz fs) (m : Int)).1 := ⟨_, fun _ _ => rfl⟩
noncomputable def oln : List Nat → Nat → List Nat := Classical.choose oln_ex
theorem oln_eq (fs : List Nat) (m : Nat) : oln fs m = toN (lnv (nz fs) (m : Int)).1 := Classical.choose_spec oln_ex fs m
def nu (fs : List Nat) : Nat := ((List.range fs.length).filter fun s => decide (0 < fs.getD s 0)).length
theorem toN_nz' (l : List Nat) : toN (nz l) = l := by rw [toN, nz, List.map_map]; exact (List.map_congr_left fun x _ => Int.toNat_natCast x).trans (List.map_id _)
theorem okr_nz' {l : List Nat} {m : Nat} (h : ∀ n ∈ l, n ≤ m) : okr (nz l) (m : Int) = true := by
 rw [okr_iff]; intro z hz
 obtain ⟨n, hn, rfl⟩ := List.mem_map.1 hz
 have := h n hn; omega
theorem oln_law {fs : List Nat} {m : Nat} (hm : 1 ≤ m) (hm2 : m ≤ 30) (hf : ∀ f ∈ fs, f ≤ 1099511627776) (hl : fs.length ≤ 4096) (hc : fs.length ≤ 2 ^ m) :
  lnv (nz fs) (m : Int) = (nz (oln fs m), 0) ∧ (oln fs m).length = fs.length ∧ (∀ s, s < fs.length → (0 < fs.getD s 0 ↔ 0 < (oln fs m).getD s 0) ∧ (oln fs m).getD s 0 ≤ m) ∧ (2 ≤ nu fs → Pf.kr (oln fs m) = 2 ^ 30) ∧ (nu fs = 1 → Pf.kr (oln fs m) = 2 ^ 29) := by
 have hu : nu fs = (isort Tr.wt (sgl fs)).length := used_all fs
 have hs : (isort Tr.wt (sgl fs)).length ≤ 2 ^ m := by have h1 := isort_len Tr.wt (sgl fs); have h2 := sgl_len fs; omega
 obtain ⟨L, h1, h2, h3, h4, h5, _⟩ := lens_law hm hm2 _ rfl hs
 have hv : lnv (nz fs) (m : Int) = (nz L, 0) := by
  unfold lnv Sg
  rw [if_neg (by rw [nz_len]; omega), if_neg (fun c => c (okr_nz' (m := 1099511627776) hf)), if_neg (by omega), Int.toNat_natCast, toN_nz', if_neg (by omega), nz_len, h1]
 have he : oln fs m = L := by rw [oln_eq, hv, toN_nz']
 rw [he, hu]; exact ⟨hv, h2, h3, h4, h5⟩
theorem kr_zero {l : List Nat} (h : ∀ n ∈ l, n = 0) : Pf.kr l = 0 := by
 induction l with
 | nil => rfl
 | cons a l ih => have := ih (fun n hn => h n (by simp [hn])); have h0 := h a (by simp); simp only [Pf.kr, List.map_cons, List.sum_cons] at *; rw [this, h0]; rfl
theorem mem_getD {l : List Nat} {n : Nat} (h : n ∈ l) : ∃ s, s < l.length ∧ l.getD s 0 = n := by
 obtain ⟨s, hs, rfl⟩ := List.getElem_of_mem h
 exact ⟨s, hs, Pf.getD_eq hs⟩
theorem nu_pos {fs : List Nat} {s : Nat} (hs : s < fs.length) (h : 0 < fs.getD s 0) : 1 ≤ nu fs := by
 unfold nu
 exact List.length_pos_of_mem (a := s) (List.mem_filter.2 ⟨List.mem_range.2 hs, decide_eq_true h⟩)
theorem nu_two {fs : List Nat} {s t : Nat} (hs : s < fs.length) (ht : t < fs.length) (h1 : 0 < fs.getD s 0) (h2 : 0 < fs.getD t 0) (hne : s ≠ t) : 2 ≤ nu fs := by
 unfold nu
 have hs' : s ∈ (List.range fs.length).filter fun s => decide (0 < fs.getD s 0) := List.mem_filter.2 ⟨List.mem_range.2 hs, decide_eq_true h1⟩
 have ht' : t ∈ (List.range fs.length).filter fun s => decide (0 < fs.getD s 0) := List.mem_filter.2 ⟨List.mem_range.2 ht, decide_eq_true h2⟩
 generalize (List.range fs.length).filter (fun s => decide (0 < fs.getD s 0)) = l at hs' ht'
 match l, hs', ht' with
 | [], h, _ => cases h
 | [a], h, g => rw [List.mem_singleton] at h g; omega
 | _ :: _ :: _, _, _ => simp
theorem oln_ok {fs : List Nat} {m : Nat} (hm : 1 ≤ m) (hm2 : m ≤ 30) (hf : ∀ f ∈ fs, f ≤ 1099511627776) (hl : fs.length ≤ 4096) (hc : fs.length ≤ 2 ^ m) : (∀ n ∈ oln fs m, n ≤ m) ∧ Pf.kr (oln fs m) ≤ 1073741824 := by
  obtain ⟨_, h2, h3, h4, h5⟩ := oln_law hm hm2 hf hl hc
  refine ⟨fun n hn => ?_, ?_⟩
  · obtain ⟨s, hs, rfl⟩ := mem_getD hn; exact (h3 s (by omega)).2
  · rcases (show nu fs = 0 ∨ nu fs = 1 ∨ 2 ≤ nu fs by omega) with h | h | h
    · rw [kr_zero]; · omega
      intro n hn
      obtain ⟨s, hs, rfl⟩ := mem_getD hn
      have := (h3 s (by omega)).1
      by_cases c : 0 < fs.getD s 0
      · have := nu_pos (by omega) c; omega
      · omega
    · rw [h5 h]; decide
    · rw [h4 h]; decide
def bmp (l : List Nat) (k : Nat) : List Nat := l.set k (l.getD k 0 + 1)
theorem bmp_len (l : List Nat) (k : Nat) : (bmp l k).length = l.length := List.length_set
theorem bmp_get (l : List Nat) (k j : Nat) : (bmp l k).getD j 0 = l.getD j 0 + if j = k ∧ k < l.length then 1 else 0 := by
  unfold bmp
  by_cases e : j = k
  · subst e
    by_cases h : j < l.length
    · rw [if_pos ⟨rfl, h⟩, List.getD_eq_getElem?_getD, List.getElem?_set_self h]; rfl
    · rw [if_neg (fun c => h c.2), List.getD_eq_getElem?_getD, List.getElem?_eq_none (by rw [List.length_set]; omega), List.getD_eq_getElem?_getD, List.getElem?_eq_none (by omega)]; rfl
  · rw [if_neg (fun c => e c.1), List.getD_eq_getElem?_getD, List.getElem?_set_ne (fun h => e h.symm), ← List.getD_eq_getElem?_getD]; rfl
theorem nz_bmp {l : List Nat} {k : Nat} : (nz l).set k (((l.getD k 0 + 1 : Nat)) : Int) = nz (bmp l k) := by unfold nz bmp; rw [List.map_set]
def cnl (z : List Nat) (ks : List Nat) : List Nat := ks.foldl bmp z
theorem cnl_snoc {z ks : List Nat} {i : Nat} (h : i < ks.length) : cnl z (ks.take (i + 1)) = bmp (cnl z (ks.take i)) ks[i] := by
 unfold cnl; rw [← List.take_append_getElem h, List.foldl_append]; rfl
theorem cnl_app (z a b : List Nat) : cnl z (a ++ b) = cnl (cnl z a) b := List.foldl_append
theorem cnl_len : ∀ (ks z : List Nat), (cnl z ks).length = z.length
 | [], z => rfl
 | k :: ks, z => by show (cnl (bmp z k) ks).length = _; rw [cnl_len ks, bmp_len]
theorem cnl_mono : ∀ (ks z : List Nat) (j : Nat), z.getD j 0 ≤ (cnl z ks).getD j 0
 | [], z, j => Nat.le_refl _
 | k :: ks, z, j => by
  have h1 := cnl_mono ks (bmp z k) j
  rw [bmp_get] at h1
  show _ ≤ (cnl (bmp z k) ks).getD j 0; omega
theorem cnl_le : ∀ (ks z : List Nat) (j : Nat), (cnl z ks).getD j 0 ≤ z.getD j 0 + ks.length
 | [], z, j => Nat.le_refl _
 | k :: ks, z, j => by
  have h1 := cnl_le ks (bmp z k) j
  rw [bmp_get] at h1
  show (cnl (bmp z k) ks).getD j 0 ≤ _
  rw [List.length_cons]
  split at h1 <;> omega
theorem cnl_pos : ∀ {ks z : List Nat} {k : Nat}, k ∈ ks → k < z.length → 0 < (cnl z ks).getD k 0
  | a :: ks, z, k, h, hl => by
    show 0 < (cnl (bmp z a) ks).getD k 0
    rcases List.mem_cons.1 h with rfl | h
    · have := cnl_mono ks (bmp z k) k
      rw [bmp_get, if_pos ⟨rfl, hl⟩] at this; omega
    · exact cnl_pos h (by rw [bmp_len]; exact hl)
theorem cnl_bd {ks z : List Nat} {B : Nat} (h : ∀ n ∈ z, n ≤ B) : ∀ n ∈ cnl z ks, n ≤ B + ks.length := fun n hn => by
 obtain ⟨s, hs, rfl⟩ := mem_getD hn
 have h1 := cnl_le ks z s
 have h2 : z.getD s 0 ≤ B := by
  rw [cnl_len] at hs
  rw [Pf.getD_eq hs]; exact h _ (List.getElem_mem hs)
 omega
def lsm (t : Nat) : Nat := if t ≤ 255 then t else lsy (t / 65536)
def dsms (ts : List Nat) : List Nat := (ts.filter fun t => decide (255 < t)).map fun t => dsy (t % 65536)
theorem dsms_snoc {ts : List Nat} {i : Nat} (h : i < ts.length) : dsms (ts.take (i + 1)) = dsms (ts.take i) ++ if ts[i] ≤ 255 then [] else [dsy (ts[i] % 65536)] := by
 unfold dsms
 rw [← List.take_append_getElem h, List.filter_append, List.map_append]
 congr 1
 by_cases e : ts[i] ≤ 255
 · rw [if_pos e, List.filter_cons, if_neg (by rw [decide_eq_true_eq]; omega)]; rfl
 · rw [if_neg e, List.filter_cons, if_pos (by rw [decide_eq_true_eq]; omega)]; rfl
def fql (ts : List Nat) : List Nat := cnl ((List.replicate 286 0).set 256 1) (ts.map lsm)
def fqd (ts : List Nat) : List Nat := cnl (List.replicate 30 0) (dsms ts)
theorem fql_snoc {ts : List Nat} {i : Nat} (h : i < ts.length) : fql (ts.take (i + 1)) = bmp (fql (ts.take i)) (lsm ts[i]) := by
 unfold fql
 rw [List.map_take, cnl_snoc (by rw [List.length_map]; exact h), List.getElem_map, List.map_take]
theorem fqd_lit {ts : List Nat} {i : Nat} (h : i < ts.length) (h2 : ts[i] ≤ 255) : fqd (ts.take (i + 1)) = fqd (ts.take i) := by
 unfold fqd; rw [dsms_snoc h, if_pos h2, List.append_nil]
theorem fqd_mat {ts : List Nat} {i : Nat} (h : i < ts.length) (h2 : ¬ ts[i] ≤ 255) : fqd (ts.take (i + 1)) = bmp (fqd (ts.take i)) (dsy (ts[i] % 65536)) := by
 unfold fqd; rw [dsms_snoc h, if_neg h2, cnl_app]; rfl
theorem fql_len (ts : List Nat) : (fql ts).length = 286 := by unfold fql; rw [cnl_len, List.length_set, List.length_replicate]
theorem fqd_len (ts : List Nat) : (fqd ts).length = 30 := by unfold fqd; rw [cnl_len, List.length_replicate]
theorem dsms_len (ts : List Nat) : (dsms ts).length ≤ ts.length := by unfold dsms; rw [List.length_map]; exact List.length_filter_le _ _
theorem fql_bd (ts : List Nat) : ∀ n ∈ fql ts, n ≤ 1 + ts.length := by
 have := cnl_bd (ks := ts.map lsm) (z := (List.replicate 286 0).set 256 1) (B := 1) (fun n hn => by
  rcases List.mem_or_eq_of_mem_set hn with hn | hn
  · rw [List.eq_of_mem_replicate hn]; exact Nat.zero_le _
  · omega)
 rw [List.length_map] at this; exact this
theorem fqd_bd (ts : List Nat) : ∀ n ∈ fqd ts, n ≤ 1 + ts.length := fun n hn => by
 have h1 := cnl_bd (ks := dsms ts) (z := List.replicate 30 0) (B := 0) (fun n hn => by rw [List.eq_of_mem_replicate hn]; exact Nat.le_refl _) n hn
 have := dsms_len ts; omega
def ctg (l : List Nat) (least : Nat) : Nat → Nat
 | 0 => 0
 | n + 1 => if least < n + 1 ∧ l.getD n 0 = 0 then ctg l least n else n + 1
def ctn (l : List Nat) (least : Nat) : Nat := ctg l least l.length
theorem ctg_spec (l : List Nat) (least : Nat) : ∀ n, ctg l least n ≤ n ∧ (least ≤ n → least ≤ ctg l least n) ∧ (∀ j, ctg l least n ≤ j → j < n → l.getD j 0 = 0) ∧ (ctg l least n ≤ least ∨ l.getD (ctg l least n - 1) 0 ≠ 0)
  | 0 => ⟨Nat.le_refl _, fun h => h, fun j _ h => by omega, .inl (Nat.zero_le _)⟩
  | n + 1 => by
    rw [ctg]
    by_cases h : least < n + 1 ∧ l.getD n 0 = 0
    · rw [if_pos h]
      obtain ⟨h1, h2, h3, h4⟩ := ctg_spec l least n
      refine ⟨by omega, fun _ => h2 (by omega), fun j g1 g2 => ?_, h4⟩
      by_cases e : j = n
      · subst e; exact h.2
      · exact h3 j g1 (by omega)
    · rw [if_neg h]
      refine ⟨Nat.le_refl _, fun h => h, fun j g1 g2 => by omega, ?_⟩
      by_cases c : n + 1 ≤ least
      · exact .inl c
      · right; rw [Nat.add_sub_cancel]; exact fun e => h ⟨by omega, e⟩
theorem ctn_le (l : List Nat) (least : Nat) : ctn l least ≤ l.length := (ctg_spec l least l.length).1
theorem ctn_ge {l : List Nat} {least : Nat} (h : least ≤ l.length) : least ≤ ctn l least := (ctg_spec l least l.length).2.1 h
theorem ctn_zero {l : List Nat} {least j : Nat} (h : ctn l least ≤ j) : l.getD j 0 = 0 := by
 by_cases hj : j < l.length
 · exact (ctg_spec l least l.length).2.2.1 j h hj
 · rw [List.getD_eq_getElem?_getD, List.getElem?_eq_none (by omega)]; rfl
abbrev Stp := Nat × Nat × Nat
def zer (n : Nat) : List Stp := if 11 ≤ n then (18, min n 138 - 11, 7) :: zer (n - min n 138) else if 3 ≤ n then [(17, n - 3, 3)] else List.replicate n (0, 0, 0)
termination_by n
decreasing_by omega
theorem zer_big {n : Nat} (h : 11 ≤ n) : zer n = (18, min n 138 - 11, 7) :: zer (n - min n 138) := by rw [zer, if_pos h]
theorem zer_mid {n : Nat} (h : n < 11) (h2 : 3 ≤ n) : zer n = [(17, n - 3, 3)] := by rw [zer, if_neg (by omega), if_pos h2]
theorem zer_few {n : Nat} (h : n < 3) : zer n = List.replicate n (0, 0, 0) := by rw [zer, if_neg (by omega), if_neg (by omega)]
def eqr (v n : Nat) : List Stp := if 3 ≤ n then (16, min n 6 - 3, 2) :: eqr v (n - min n 6) else List.replicate n (v, 0, 0)
termination_by n
decreasing_by omega
theorem eqr_big {v n : Nat} (h : 3 ≤ n) : eqr v n = (16, min n 6 - 3, 2) :: eqr v (n - min n 6) := by rw [eqr, if_pos h]
theorem eqr_few {v n : Nat} (h : n < 3) : eqr v n = List.replicate n (v, 0, 0) := by rw [eqr, if_neg (by omega)]
def eqs (v n : Nat) : List Stp := (v, 0, 0) :: eqr v (n - 1)
def ren (l : List Nat) (v : Nat) : Nat → Nat → Nat
 | 0, e => e
 | f + 1, e => if e < l.length ∧ l.getD e 0 = v then ren l v f (e + 1) else e
theorem ren_spec (l : List Nat) (v : Nat) : ∀ (f e : Nat), e ≤ ren l v f e ∧ ren l v f e ≤ e + f ∧ (e ≤ l.length → ren l v f e ≤ l.length) ∧ ∀ j, e ≤ j → j < ren l v f e → l.getD j 0 = v
  | 0, e => ⟨Nat.le_refl _, Nat.le_refl _, fun h => h, fun j h1 h2 => by rw [ren] at h2; omega⟩
  | f + 1, e => by
    rw [ren]
    by_cases h : e < l.length ∧ l.getD e 0 = v
    · rw [if_pos h]
      obtain ⟨h1, h2, h3, h4⟩ := ren_spec l v f (e + 1)
      refine ⟨by omega, by omega, fun _ => h3 (by omega), fun j g1 g2 => ?_⟩
      by_cases c : j = e
      · subst c; exact h.2
      · exact h4 j (by omega) g2
    · rw [if_neg h]; exact ⟨Nat.le_refl _, by omega, fun h => h, fun j h1 h2 => by omega⟩
def rend (l : List Nat) (a : Nat) : Nat := ren l (l.getD a 0) (l.length - a) a
theorem rend_spec {l : List Nat} {a : Nat} (h : a < l.length) : a < rend l a ∧ rend l a ≤ l.length ∧ ∀ j, a ≤ j → j < rend l a → l.getD j 0 = l.getD a 0 := by
 obtain ⟨h1, h2, h3, h4⟩ := ren_spec l (l.getD a 0) (l.length - a) a
 refine ⟨?_, h3 (by omega), h4⟩
 unfold rend
 obtain ⟨f, hf⟩ : ∃ f, l.length - a = f + 1 := ⟨l.length - a - 1, by omega⟩
 rw [hf, ren, if_pos ⟨h, rfl⟩]
 have := (ren_spec l (l.getD a 0) f (a + 1)).1; omega
def sq (l : List Nat) (a : Nat) : List Stp :=
 if h : a < l.length then (if l.getD a 0 = 0 then zer (rend l a - a) else eqs (l.getD a 0) (rend l a - a)) ++ sq l (rend l a) else []
termination_by l.length - a
decreasing_by have := rend_spec h; omega
theorem sq_on {l : List Nat} {a : Nat} (h : a < l.length) : sq l a = (if l.getD a 0 = 0 then zer (rend l a - a) else eqs (l.getD a 0) (rend l a - a)) ++ sq l (rend l a) := by rw [sq, dif_pos h]
theorem sq_end {l : List Nat} {a : Nat} (h : l.length ≤ a) : sq l a = [] := by rw [sq, dif_neg (by omega)]
def Sok (m : Nat) (x : Stp) : Prop := (x.1 ≤ m ∧ x.2 = (0, 0)) ∨ (x.1 = 16 ∧ x.2.2 = 2 ∧ x.2.1 < 4) ∨ (x.1 = 17 ∧ x.2.2 = 3 ∧ x.2.1 < 8) ∨ (x.1 = 18 ∧ x.2.2 = 7 ∧ x.2.1 < 128)
theorem zer_ok (m n : Nat) : ∀ x ∈ zer n, Sok m x := by
  intro x hx
  by_cases h : 11 ≤ n
  · rw [zer_big h] at hx
    rcases List.mem_cons.1 hx with rfl | hx
    · right; right; right; exact ⟨rfl, rfl, by show min n 138 - 11 < 128; omega⟩
    · exact zer_ok m _ x hx
  · by_cases h2 : 3 ≤ n
    · rw [zer_mid (by omega) h2, List.mem_singleton] at hx; subst hx
      right; right; left; exact ⟨rfl, rfl, by show n - 3 < 8; omega⟩
    · rw [zer_few (by omega)] at hx
      rw [List.eq_of_mem_replicate hx]; exact .inl ⟨Nat.zero_le _, rfl⟩
termination_by n
decreasing_by omega
theorem eqr_ok {m v : Nat} (hv : v ≤ m) (n : Nat) : ∀ x ∈ eqr v n, Sok m x := by
  intro x hx
  by_cases h : 3 ≤ n
  · rw [eqr_big h] at hx
    rcases List.mem_cons.1 hx with rfl | hx
    · right; left; exact ⟨rfl, rfl, by show min n 6 - 3 < 4; omega⟩
    · exact eqr_ok hv _ x hx
  · rw [eqr_few (by omega)] at hx
    rw [List.eq_of_mem_replicate hx]; exact .inl ⟨hv, rfl⟩
termination_by n
decreasing_by omega
theorem sq_ok {m : Nat} {l : List Nat} (hl : ∀ n ∈ l, n ≤ m) (a : Nat) : ∀ x ∈ sq l a, Sok m x := by
  by_cases h : a < l.length
  · rw [sq_on h]
    intro x hx
    rcases List.mem_append.1 hx with hx | hx
    · split at hx
      · exact zer_ok m _ x hx
      · have hv : l.getD a 0 ≤ m := by rw [Pf.getD_eq h]; exact hl _ (List.getElem_mem h)
        rcases List.mem_cons.1 hx with rfl | hx
        · exact .inl ⟨hv, rfl⟩
        · exact eqr_ok hv _ x hx
    · have := rend_spec h
      exact sq_ok hl (rend l a) x hx
  · rw [sq_end (by omega)]; intro x hx; cases hx
termination_by l.length - a
decreasing_by have := rend_spec h; omega
theorem zer_len (n : Nat) : (zer n).length ≤ n := by
  by_cases h : 11 ≤ n
  · rw [zer_big h, List.length_cons]; have := zer_len (n - min n 138); omega
  · by_cases h2 : 3 ≤ n
    · rw [zer_mid (by omega) h2]; simp; omega
    · rw [zer_few (by omega), List.length_replicate]; omega
termination_by n
decreasing_by omega
theorem eqr_len (v n : Nat) : (eqr v n).length ≤ n := by
 by_cases h : 3 ≤ n
 · rw [eqr_big h, List.length_cons]; have := eqr_len v (n - min n 6); omega
 · rw [eqr_few (by omega), List.length_replicate]; omega
termination_by n
decreasing_by omega
theorem sq_len (l : List Nat) (a : Nat) : (sq l a).length ≤ l.length - a := by
  by_cases h : a < l.length
  · have hr := rend_spec h
    have := sq_len l (rend l a)
    rw [sq_on h, List.length_append]
    split
    · have := zer_len (rend l a - a); omega
    · have := eqr_len (l.getD a 0) (rend l a - a - 1)
      rw [eqs, List.length_cons]; omega
  · rw [sq_end (by omega)]; simp
termination_by l.length - a
def ordL : List Nat := [16, 17, 18, 0, 8, 7, 9, 6, 10, 5, 11, 4, 12, 3, 13, 2, 14, 1, 15]
def allL (L D : List Nat) : List Nat := L.take (ctn L 257) ++ D.take (ctn D 1)
def frqS (st : List Stp) : List Nat := cnl (List.replicate 19 0) (st.map Prod.fst)
def lst (c : List Nat) : List Nat := ordL.map fun s => c.getD s 0
noncomputable def sbits (c : List Nat) (x : Stp) : List Bool := btv (Pf.code c x.1) (c.getD x.1 0) ++ low x.2.1 x.2.2
noncomputable def hdr3 (c : List Nat) (k : Nat) : List Bool := ((lst c).take k).flatMap fun n => low n 3
noncomputable def hdr (L D : List Nat) : List Bool :=
 low (ctn L 257 - 257) 5 ++ low (ctn D 1 - 1) 5 ++ low (ctn (lst (oln (frqS (sq (allL L D) 0)) 7)) 4 - 4) 4 ++ hdr3 (oln (frqS (sq (allL L D) 0)) 7) (ctn (lst (oln (frqS (sq (allL L D) 0)) 7)) 4)
  ++ (sq (allL L D) 0).flatMap (sbits (oln (frqS (sq (allL L D) 0)) 7))
theorem frqS_len (st : List Stp) : (frqS st).length = 19 := by unfold frqS; rw [cnl_len, List.length_replicate]
theorem frqS_bd (st : List Stp) : ∀ n ∈ frqS st, n ≤ st.length := fun n hn => by
 have h1 := cnl_bd (ks := st.map Prod.fst) (z := List.replicate 19 0) (B := 0) (fun n hn => by rw [List.eq_of_mem_replicate hn]; exact Nat.le_refl _) n hn
 rw [List.length_map] at h1; omega
theorem frqS_snoc {st : List Stp} {i : Nat} (h : i < st.length) : frqS (st.take (i + 1)) = bmp (frqS (st.take i)) st[i].1 := by
 unfold frqS
 rw [List.map_take, cnl_snoc (by rw [List.length_map]; exact h), List.getElem_map, List.map_take]
theorem lst_len (c : List Nat) : (lst c).length = 19 := rfl
end Df
end Go.Proofs.YtplbgehpohdmdaaGreatDoor
