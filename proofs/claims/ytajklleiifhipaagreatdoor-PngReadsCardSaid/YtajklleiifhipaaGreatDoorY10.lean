/- Texts of the claim, laid together: Pf32, DfO, Df7. -/
import Derived.Test.YtajklleiifhipaaGreatDoorY0
import Derived.Test.YtajklleiifhipaaGreatDoorY3
import Derived.Test.YtajklleiifhipaaGreatDoorY5
import Derived.Test.YtajklleiifhipaaGreatDoorY6
import Derived.Test.YtajklleiifhipaaGreatDoorY9
set_option linter.unusedSimpArgs false
set_option linter.unusedVariables false
namespace Go.Proofs.YtajklleiifhipaaGreatDoor
open Go.RowKit Sym
def cst (fs L : List Nat) : Nat := ((List.range fs.length).map fun s => fs.getD s 0 * L.getD s 0).sum
theorem sum_le {h g : Tr → Nat} : ∀ (S : List Tr), (∀ t ∈ S, h t ≤ g t) → (S.map h).sum ≤ (S.map g).sum
 | [], _ => Nat.le_refl _
 | t :: S, hh => by
  have h1 := hh t (by simp)
  have h2 := sum_le S fun x hx => hh x (by simp [hx])
  rw [List.map_cons, List.map_cons, List.sum_cons, List.sum_cons]; omega
theorem sum_cong {h g : Tr → Nat} (S : List Tr) (hh : ∀ t ∈ S, h t = g t) : (S.map h).sum = (S.map g).sum := by rw [List.map_congr_left hh]
theorem sum_mul {h : Tr → Nat} (k : Nat) : ∀ (S : List Tr), (S.map fun t => k * h t).sum = k * (S.map h).sum
 | [] => by simp
 | t :: S => by rw [List.map_cons, List.map_cons, List.sum_cons, List.sum_cons, sum_mul k S, Nat.mul_add]
theorem sum_part {q : Nat → Bool} {h : Nat → Nat} : ∀ (l : List Nat), ((l.filter q).map h).sum ≤ (l.map h).sum
 | [] => Nat.le_refl _
 | s :: l => by
  have ih := sum_part (q := q) (h := h) l
  rw [List.map_cons, List.sum_cons, List.filter_cons]
  cases q s with
  | true => simp; exact ih
  | false => simp; omega
theorem un_pow {c m : Nat} (h1 : 1 ≤ c) (h2 : c ≤ m) (h3 : m ≤ 30) : Pf.un c = 2 ^ (30 - m) * 2 ^ (m - c) := by
 rw [Pf.un, if_neg (by omega), ← Nat.pow_add]; congr 1; omega
theorem kr_sum (o : List Nat) : Pf.kr o = ((List.range o.length).map fun s => Pf.un (o.getD s 0)).sum := by
 unfold Pf.kr
 congr 1
 apply List.ext_getElem?
 intro i
 rw [List.getElem?_map, List.getElem?_map]
 by_cases h : i < o.length
 · rw [List.getElem?_range h]; simp [h, List.getD_eq_getElem?_getD]
 rw [List.getElem?_eq_none (show o.length ≤ i by omega), List.getElem?_eq_none (show (List.range o.length).length ≤ i by simp; omega)]; rfl
theorem mem_sx {fs : List Nat} {s : Nat} (hs : s < fs.length) (h : 0 < fs.getD s 0) : s ∈ (isort Tr.wt (sgl fs)).map sx := by
 have hp : ((isort Tr.wt (sgl fs)).map sx).Perm ((sgl fs).map sx) := (isort_perm Tr.wt _ (sgl fs) rfl).map _
 rw [hp.mem_iff, sgl_sx, List.mem_filter, List.mem_range]; exact ⟨hs, by simpa using h⟩
theorem sx_mem {fs : List Nat} {s : Nat} (h : s ∈ (isort Tr.wt (sgl fs)).map sx) : s < fs.length ∧ 0 < fs.getD s 0 := by
 obtain ⟨t, ht, rfl⟩ := List.mem_map.1 h
 have := lf_sx (isort_lf t ht); exact ⟨this.1, this.2.1⟩
theorem lens_src {fs : List Nat} {m : Nat} (hm : 1 ≤ m) (S : List Tr) (hS : S = isort Tr.wt (sgl fs)) (hc : S.length ≤ 2 ^ m) :
    ∃ F : List Nat, lens S fs.length m = bump (zeros fs.length) F ∧ (∀ t ∈ S, 1 ≤ F.count (sx t) ∧ F.count (sx t) ≤ m) ∧ (∀ s, s ∉ S.map sx → F.count s = 0) ∧ (2 ≤ S.length → (S.map fun t => 2 ^ (m - F.count (sx t))).sum = 2 ^ m) ∧ (S.length = 1 → (S.map fun t => 2 ^ (m - F.count (sx t))).sum * 2 = 2 ^ m) ∧
      (∀ c : Tr → Nat, (∀ t ∈ S, 1 ≤ c t ∧ c t ≤ m) → (S.map fun t => 2 ^ (m - c t)).sum ≤ 2 ^ m → (S.map fun t => t.wt * F.count (sx t)).sum ≤ (S.map fun t => t.wt * c t).sum) := by
  by_cases h2 : 2 ≤ S.length
  · obtain ⟨p1, p2, p3, p4, p5⟩ := pm_two hm S hS h2 hc
    exact ⟨Fk S m, by rw [lens, if_neg (by omega)], p1, p4, fun _ => p2, fun h => by omega, fun c hcc hk => p5 c (fun t ht => (hcc t ht).2) hk⟩
  have hlf : ∀ t ∈ S, Lf fs t := by rw [hS]; exact isort_lf
  have hnd : (S.map sx).Nodup := by rw [hS]; exact isort_nd fs
  have hone : ∀ t ∈ S, (S.map sx).count (sx t) = 1 := fun t ht => by
    have h1 : (S.map sx).count (sx t) ≤ 1 := List.nodup_iff_count.1 hnd _
    have h3 := List.count_pos_iff.2 (List.mem_map_of_mem (f := sx) ht)
    omega
  refine ⟨S.map sx, ?_, fun t ht => by rw [hone t ht]; omega, fun s hs => List.count_eq_zero.2 hs, fun h => absurd h h2, fun h1 => ?_, fun c hcc _ => sum_le S fun t ht => by rw [hone t ht]; exact Nat.mul_le_mul_left _ (hcc t ht).1⟩
  · rw [lens, if_pos (by omega), ini, ← leaf_flat hlf]
    by_cases e : S.length = 1
    · rw [if_pos e]
    rw [if_neg e, List.length_eq_zero_iff.1 (show S.length = 0 by omega)]; rfl
  rw [sum_cong S (g := fun _ => 2 ^ (m - 1)) (fun t ht => by rw [hone t ht])]
  obtain ⟨t, rfl⟩ := List.length_eq_one_iff.1 h1
  simp only [List.map_cons, List.map_nil, List.sum_cons, List.sum_nil, Nat.add_zero]
  rw [← Nat.pow_succ]; congr 1; omega
theorem lens_law {fs : List Nat} {m : Nat} (hm : 1 ≤ m) (hm2 : m ≤ 30) (S : List Tr) (hS : S = isort Tr.wt (sgl fs)) (hc : S.length ≤ 2 ^ m) :
    ∃ L : List Nat, lens S fs.length m = nz L ∧ L.length = fs.length ∧ (∀ s, s < fs.length → (0 < fs.getD s 0 ↔ 0 < L.getD s 0) ∧ L.getD s 0 ≤ m) ∧ (2 ≤ S.length → Pf.kr L = 2 ^ 30) ∧ (S.length = 1 → Pf.kr L = 2 ^ 29) ∧
      (∀ o : List Nat, o.length = fs.length → (∀ s, s < fs.length → o.getD s 0 ≤ m ∧ (0 < fs.getD s 0 → 0 < o.getD s 0)) → Pf.kr o ≤ 2 ^ 30 → cst fs L ≤ cst fs o) := by
  obtain ⟨F, f1, f2, f3, f4, f5, f6⟩ := lens_src hm S hS hc
  have hlf : ∀ t ∈ S, Lf fs t := by rw [hS]; exact isort_lf
  have hget : ∀ s, s < fs.length → ((List.range fs.length).map fun s => F.count s).getD s 0 = F.count s := fun s hs => by
    rw [List.getD_eq_getElem?_getD, List.getElem?_map, List.getElem?_range hs]; rfl
  have h30 : 2 ^ (30 - m) * 2 ^ m = 2 ^ 30 := by rw [← Nat.pow_add]; congr 1; omega
  have hpos : 0 < 2 ^ (30 - m) := Nat.pow_pos (by decide)
  have hkL : Pf.kr ((List.range fs.length).map fun s => F.count s) = 2 ^ (30 - m) * (S.map fun t => 2 ^ (m - F.count (sx t))).sum := by
    rw [kr_sum, List.length_map, List.length_range]
    have e : ((List.range fs.length).map fun s => Pf.un (((List.range fs.length).map fun s => F.count s).getD s 0)) = (List.range fs.length).map fun s => Pf.un (F.count s) := List.map_congr_left fun s hs => by rw [hget s (List.mem_range.1 hs)]
    rw [e, sum_sgl fs (h := fun s => Pf.un (F.count s)) (fun s hs hz => by
      show Pf.un (F.count s) = 0
      rw [f3 s (by rw [hS]; intro h; have := (sx_mem h).2; omega)]; rfl), ← hS, ← sum_mul]
    exact sum_cong S fun t ht => un_pow (f2 t ht).1 (f2 t ht).2 hm2
  refine ⟨(List.range fs.length).map fun s => F.count s, ?_, by simp, fun s hs => ?_, fun h => by rw [hkL, f4 h, h30], fun h => ?_, fun o ho hoo hk => ?_⟩
  · rw [f1]
    apply List.ext_getElem?
    intro i
    by_cases h : i < fs.length
    · rw [bump_get _ _ _ (by simp [zeros]; exact h), nz, List.getElem?_map, List.getElem?_map, List.getElem?_range h]
      simp [zeros, List.getD_eq_getElem?_getD, List.getElem?_replicate, h]
    rw [List.getElem?_eq_none (by rw [bump_len]; simp [zeros]; omega), List.getElem?_eq_none (by simp [nz]; omega)]
  · rw [hget s hs]
    by_cases h : s ∈ S.map sx
    · obtain ⟨t, ht, rfl⟩ := List.mem_map.1 h
      have h1 := f2 t ht
      have h2 := lf_sx (hlf t ht)
      exact ⟨⟨fun _ => by omega, fun _ => h2.2.1⟩, h1.2⟩
    rw [f3 s h]
    exact ⟨⟨fun h' => (h (by rw [hS]; exact mem_sx hs h')).elim, fun h' => absurd h' (Nat.lt_irrefl _)⟩, Nat.zero_le _⟩
  · have e1 := f5 h
    have e2 : 2 ^ (30 - m) * ((S.map fun t => 2 ^ (m - F.count (sx t))).sum * 2) = 2 ^ 30 := by rw [e1, h30]
    rw [← Nat.mul_assoc, ← hkL] at e2
    have : (2 : Nat) ^ 30 = 2 ^ 29 * 2 := by decide
    omega
  have hcL : cst fs ((List.range fs.length).map fun s => F.count s) = (S.map fun t => t.wt * F.count (sx t)).sum := by
    unfold cst
    have e : ((List.range fs.length).map fun s => fs.getD s 0 * ((List.range fs.length).map fun s => F.count s).getD s 0) = (List.range fs.length).map fun s => fs.getD s 0 * F.count s := List.map_congr_left fun s hs => by rw [hget s (List.mem_range.1 hs)]
    rw [e, sum_sgl fs (h := fun s => fs.getD s 0 * F.count s) (fun s _ hz => by show fs.getD s 0 * _ = 0; rw [hz, Nat.zero_mul]), ← hS]
    exact sum_cong S fun t ht => by rw [(lf_sx (hlf t ht)).2.2]
  have hco : cst fs o = (S.map fun t => t.wt * o.getD (sx t) 0).sum := by
    unfold cst
    rw [sum_sgl fs (h := fun s => fs.getD s 0 * o.getD s 0) (fun s _ hz => by show fs.getD s 0 * _ = 0; rw [hz, Nat.zero_mul]), ← hS]
    exact sum_cong S fun t ht => by rw [(lf_sx (hlf t ht)).2.2]
  rw [hcL, hco]
  have hct : ∀ t ∈ S, 1 ≤ o.getD (sx t) 0 ∧ o.getD (sx t) 0 ≤ m := fun t ht => by
    have h2 := lf_sx (hlf t ht)
    have h3 := hoo _ h2.1
    exact ⟨h3.2 h2.2.1, h3.1⟩
  refine f6 (fun t => o.getD (sx t) 0) hct ?_
  have hsub : 2 ^ (30 - m) * (S.map fun t => 2 ^ (m - o.getD (sx t) 0)).sum ≤ Pf.kr o := by
    rw [kr_sum, ho, ← sum_mul, sum_cong S (g := fun t => Pf.un (o.getD (sx t) 0)) (fun t ht => (un_pow (hct t ht).1 (hct t ht).2 hm2).symm)]
    have hp := perm_sum ((isort_perm Tr.wt _ (sgl fs) rfl).map fun t => Pf.un (o.getD (sx t) 0))
    rw [hS, hp]
    have e : (sgl fs).map (fun t => Pf.un (o.getD (sx t) 0)) = ((sgl fs).map sx).map fun s => Pf.un (o.getD s 0) := by rw [List.map_map]; rfl
    rw [e, sgl_sx]
    exact sum_part _
  rw [← h30] at hk
  exact Nat.le_of_mul_le_mul_left (Nat.le_trans hsub hk) hpos
theorem used_all (fs : List Nat) : ((List.range fs.length).filter fun s => decide (0 < fs.getD s 0)).length = (isort Tr.wt (sgl fs)).length := by
 rw [← sgl_sx, List.length_map, isort_len]
end Go.Proofs.YtajklleiifhipaaGreatDoor
namespace Go.Proofs.YtajklleiifhipaaGreatDoor
open Sym
namespace Df
theorem oln_ex : ∃ f : List Nat → Nat → List Nat, ∀ fs m, f fs m = toN (lnv (nz fs) (m : Int)).1 := ⟨_, fun _ _ => rfl⟩
noncomputable def oln : List Nat → Nat → List Nat := Classical.choose oln_ex
theorem oln_eq (fs : List Nat) (m : Nat) : oln fs m = toN (lnv (nz fs) (m : Int)).1 := Classical.choose_spec oln_ex fs m
def nu (fs : List Nat) : Nat := ((List.range fs.length).filter fun s => decide (0 < fs.getD s 0)).length
theorem toN_nz' (l : List Nat) : toN (nz l) = l := by rw [toN, nz, List.map_map]; exact (List.map_congr_left fun x _ => Int.toNat_natCast x).trans (List.map_id _)
theorem okr_nz' {l : List Nat} {m : Nat} (h : ∀ n ∈ l, n ≤ m) : okr (nz l) (m : Int) = true := by
 rw [okr_iff]; intro z hz
 obtain ⟨n, hn, rfl⟩ := List.mem_map.1 hz
 have := h n hn; omega
theorem oln_law {fs : List Nat} {m : Nat} (hm : 1 ≤ m) (hm2 : m ≤ 30) (hf : ∀ f ∈ fs, f ≤ 1099511627776) (hl : fs.length ≤ 4096) (hc : fs.length ≤ 2 ^ m) :
  lnv (nz fs) (m : Int) = (nz (oln fs m), 0) ∧ (oln fs m).length = fs.length ∧ (∀ s, s < fs.length → (0 < fs.getD s 0 ↔ 0 < (oln fs m).getD s 0) ∧ (oln fs m).getD s 0 ≤ m) ∧ (2 ≤ nu fs → Pf.kr (oln fs m) = 2 ^ 30) ∧ (nu fs = 1 → Pf.kr (oln fs m) = 2 ^ 29) := by
 have hu : nu fs = (isort Tr.wt (sgl fs)).length := used_all fs
 have hs : (isort Tr.wt (sgl fs)).length ≤ 2 ^ m := by have h1 := isort_len Tr.wt (sgl fs); have h2 := sgl_len fs; omega
 obtain ⟨L, h1, h2, h3, h4, h5, _⟩ := lens_law hm hm2 _ rfl hs
 have hv : lnv (nz fs) (m : Int) = (nz L, 0) := by
  unfold lnv Sg
  rw [if_neg (by rw [nz_len]; omega), if_neg (fun c => c (okr_nz' (m := 1099511627776) hf)), if_neg (by omega), Int.toNat_natCast, toN_nz', if_neg (by omega), nz_len, h1]
 have he : oln fs m = L := by rw [oln_eq, hv, toN_nz']
 rw [he, hu]; exact ⟨hv, h2, h3, h4, h5⟩
theorem kr_zero {l : List Nat} (h : ∀ n ∈ l, n = 0) : Pf.kr l = 0 := by
 induction l with
 | nil => rfl
 | cons a l ih => have := ih (fun n hn => h n (by simp [hn])); have h0 := h a (by simp); simp only [Pf.kr, List.map_cons, List.sum_cons] at *; rw [this, h0]; rfl
theorem mem_getD {l : List Nat} {n : Nat} (h : n ∈ l) : ∃ s, s < l.length ∧ l.getD s 0 = n := by
 obtain ⟨s, hs, rfl⟩ := List.getElem_of_mem h
 exact ⟨s, hs, Pf.getD_eq hs⟩
theorem nu_pos {fs : List Nat} {s : Nat} (hs : s < fs.length) (h : 0 < fs.getD s 0) : 1 ≤ nu fs := by
 unfold nu
 exact List.length_pos_of_mem (a := s) (List.mem_filter.2 ⟨List.mem_range.2 hs, decide_eq_true h⟩)
theorem nu_two {fs : List Nat} {s t : Nat} (hs : s < fs.length) (ht : t < fs.length) (h1 : 0 < fs.getD s 0) (h2 : 0 < fs.getD t 0) (hne : s ≠ t) : 2 ≤ nu fs := by
 unfold nu
 have hs' : s ∈ (List.range fs.length).filter fun s => decide (0 < fs.getD s 0) := List.mem_filter.2 ⟨List.mem_range.2 hs, decide_eq_true h1⟩
 have ht' : t ∈ (List.range fs.length).filter fun s => decide (0 < fs.getD s 0) := List.mem_filter.2 ⟨List.mem_range.2 ht, decide_eq_true h2⟩
 generalize (List.range fs.length).filter (fun s => decide (0 < fs.getD s 0)) = l at hs' ht'
 match l, hs', ht' with
 | [], h, _ => cases h
 | [a], h, g => rw [List.mem_singleton] at h g; omega
 | _ :: _ :: _, _, _ => simp
theorem oln_ok {fs : List Nat} {m : Nat} (hm : 1 ≤ m) (hm2 : m ≤ 30) (hf : ∀ f ∈ fs, f ≤ 1099511627776) (hl : fs.length ≤ 4096) (hc : fs.length ≤ 2 ^ m) : (∀ n ∈ oln fs m, n ≤ m) ∧ Pf.kr (oln fs m) ≤ 1073741824 := by
  obtain ⟨_, h2, h3, h4, h5⟩ := oln_law hm hm2 hf hl hc
  refine ⟨fun n hn => ?_, ?_⟩
  · obtain ⟨s, hs, rfl⟩ := mem_getD hn; exact (h3 s (by omega)).2
  rcases (show nu fs = 0 ∨ nu fs = 1 ∨ 2 ≤ nu fs by omega) with h | h | h
  · rw [kr_zero]; · omega
    intro n hn
    obtain ⟨s, hs, rfl⟩ := mem_getD hn
    have := (h3 s (by omega)).1
    by_cases c : 0 < fs.getD s 0
    · have := nu_pos (by omega) c; omega
    omega
  · rw [h5 h]; decide
  rw [h4 h]; decide
def bmp (l : List Nat) (k : Nat) : List Nat := l.set k (l.getD k 0 + 1)
theorem bmp_len (l : List Nat) (k : Nat) : (bmp l k).length = l.length := List.length_set
theorem bmp_get (l : List Nat) (k j : Nat) : (bmp l k).getD j 0 = l.getD j 0 + if j = k ∧ k < l.length then 1 else 0 := by
  unfold bmp
  by_cases e : j = k
  · subst e
    by_cases h : j < l.length
    · rw [if_pos ⟨rfl, h⟩, List.getD_eq_getElem?_getD, List.getElem?_set_self h]; rfl
    rw [if_neg (fun c => h c.2), List.getD_eq_getElem?_getD, List.getElem?_eq_none (by rw [List.length_set]; omega), List.getD_eq_getElem?_getD, List.getElem?_eq_none (by omega)]; rfl
  rw [if_neg (fun c => e c.1), List.getD_eq_getElem?_getD, List.getElem?_set_ne (fun h => e h.symm), ← List.getD_eq_getElem?_getD]; rfl
theorem nz_bmp {l : List Nat} {k : Nat} : (nz l).set k (((l.getD k 0 + 1 : Nat)) : Int) = nz (bmp l k) := by unfold nz bmp; rw [List.map_set]
def cnl (z : List Nat) (ks : List Nat) : List Nat := ks.foldl bmp z
theorem cnl_snoc {z ks : List Nat} {i : Nat} (h : i < ks.length) : cnl z (ks.take (i + 1)) = bmp (cnl z (ks.take i)) ks[i] := by
 unfold cnl; rw [← List.take_append_getElem h, List.foldl_append]; rfl
theorem cnl_app (z a b : List Nat) : cnl z (a ++ b) = cnl (cnl z a) b := List.foldl_append
theorem cnl_len : ∀ (ks z : List Nat), (cnl z ks).length = z.length
 | [], z => rfl
 | k :: ks, z => by show (cnl (bmp z k) ks).length = _; rw [cnl_len ks, bmp_len]
theorem cnl_mono : ∀ (ks z : List Nat) (j : Nat), z.getD j 0 ≤ (cnl z ks).getD j 0
 | [], z, j => Nat.le_refl _
 | k :: ks, z, j => by
  have h1 := cnl_mono ks (bmp z k) j
  rw [bmp_get] at h1
  show _ ≤ (cnl (bmp z k) ks).getD j 0; omega
theorem cnl_le : ∀ (ks z : List Nat) (j : Nat), (cnl z ks).getD j 0 ≤ z.getD j 0 + ks.length
 | [], z, j => Nat.le_refl _
 | k :: ks, z, j => by
  have h1 := cnl_le ks (bmp z k) j
  rw [bmp_get] at h1
  show (cnl (bmp z k) ks).getD j 0 ≤ _
  rw [List.length_cons]
  split at h1 <;> omega
theorem cnl_pos : ∀ {ks z : List Nat} {k : Nat}, k ∈ ks → k < z.length → 0 < (cnl z ks).getD k 0
  | a :: ks, z, k, h, hl => by
    show 0 < (cnl (bmp z a) ks).getD k 0
    rcases List.mem_cons.1 h with rfl | h
    · have := cnl_mono ks (bmp z k) k
      rw [bmp_get, if_pos ⟨rfl, hl⟩] at this; omega
    exact cnl_pos h (by rw [bmp_len]; exact hl)
theorem cnl_bd {ks z : List Nat} {B : Nat} (h : ∀ n ∈ z, n ≤ B) : ∀ n ∈ cnl z ks, n ≤ B + ks.length := fun n hn => by
 obtain ⟨s, hs, rfl⟩ := mem_getD hn
 have h1 := cnl_le ks z s
 have h2 : z.getD s 0 ≤ B := by
  rw [cnl_len] at hs
  rw [Pf.getD_eq hs]; exact h _ (List.getElem_mem hs)
 omega
def lsm (t : Nat) : Nat := if t ≤ 255 then t else lsy (t / 65536)
def dsms (ts : List Nat) : List Nat := (ts.filter fun t => decide (255 < t)).map fun t => dsy (t % 65536)
theorem dsms_snoc {ts : List Nat} {i : Nat} (h : i < ts.length) : dsms (ts.take (i + 1)) = dsms (ts.take i) ++ if ts[i] ≤ 255 then [] else [dsy (ts[i] % 65536)] := by
 unfold dsms
 rw [← List.take_append_getElem h, List.filter_append, List.map_append]
 congr 1
 by_cases e : ts[i] ≤ 255
 · rw [if_pos e, List.filter_cons, if_neg (by rw [decide_eq_true_eq]; omega)]; rfl
 rw [if_neg e, List.filter_cons, if_pos (by rw [decide_eq_true_eq]; omega)]; rfl
def fql (ts : List Nat) : List Nat := cnl ((List.replicate 286 0).set 256 1) (ts.map lsm)
def fqd (ts : List Nat) : List Nat := cnl (List.replicate 30 0) (dsms ts)
theorem fql_snoc {ts : List Nat} {i : Nat} (h : i < ts.length) : fql (ts.take (i + 1)) = bmp (fql (ts.take i)) (lsm ts[i]) := by
 unfold fql
 rw [List.map_take, cnl_snoc (by rw [List.length_map]; exact h), List.getElem_map, List.map_take]
theorem fqd_lit {ts : List Nat} {i : Nat} (h : i < ts.length) (h2 : ts[i] ≤ 255) : fqd (ts.take (i + 1)) = fqd (ts.take i) := by
 unfold fqd; rw [dsms_snoc h, if_pos h2, List.append_nil]
theorem fqd_mat {ts : List Nat} {i : Nat} (h : i < ts.length) (h2 : ¬ ts[i] ≤ 255) : fqd (ts.take (i + 1)) = bmp (fqd (ts.take i)) (dsy (ts[i] % 65536)) := by
 unfold fqd; rw [dsms_snoc h, if_neg h2, cnl_app]; rfl
theorem fql_len (ts : List Nat) : (fql ts).length = 286 := by unfold fql; rw [cnl_len, List.length_set, List.length_replicate]
theorem fqd_len (ts : List Nat) : (fqd ts).length = 30 := by unfold fqd; rw [cnl_len, List.length_replicate]
theorem dsms_len (ts : List Nat) : (dsms ts).length ≤ ts.length := by unfold dsms; rw [List.length_map]; exact List.length_filter_le _ _
theorem fql_bd (ts : List Nat) : ∀ n ∈ fql ts, n ≤ 1 + ts.length := by
 have := cnl_bd (ks := ts.map lsm) (z := (List.replicate 286 0).set 256 1) (B := 1) (fun n hn => by
  rcases List.mem_or_eq_of_mem_set hn with hn | hn
  · rw [List.eq_of_mem_replicate hn]; exact Nat.zero_le _
  omega)
 rw [List.length_map] at this; exact this
theorem fqd_bd (ts : List Nat) : ∀ n ∈ fqd ts, n ≤ 1 + ts.length := fun n hn => by
 have h1 := cnl_bd (ks := dsms ts) (z := List.replicate 30 0) (B := 0) (fun n hn => by rw [List.eq_of_mem_replicate hn]; exact Nat.le_refl _) n hn
 have := dsms_len ts; omega
def ctg (l : List Nat) (least : Nat) : Nat → Nat
 | 0 => 0
 | n + 1 => if least < n + 1 ∧ l.getD n 0 = 0 then ctg l least n else n + 1
def ctn (l : List Nat) (least : Nat) : Nat := ctg l least l.length
theorem ctg_spec (l : List Nat) (least : Nat) : ∀ n, ctg l least n ≤ n ∧ (least ≤ n → least ≤ ctg l least n) ∧ (∀ j, ctg l least n ≤ j → j < n → l.getD j 0 = 0) ∧ (ctg l least n ≤ least ∨ l.getD (ctg l least n - 1) 0 ≠ 0)
  | 0 => ⟨Nat.le_refl _, fun h => h, fun j _ h => by omega, .inl (Nat.zero_le _)⟩
  | n + 1 => by
    rw [ctg]
    by_cases h : least < n + 1 ∧ l.getD n 0 = 0
    · rw [if_pos h]
      obtain ⟨h1, h2, h3, h4⟩ := ctg_spec l least n
      refine ⟨by omega, fun _ => h2 (by omega), fun j g1 g2 => ?_, h4⟩
      by_cases e : j = n
      · subst e; exact h.2
      exact h3 j g1 (by omega)
    rw [if_neg h]
    refine ⟨Nat.le_refl _, fun h => h, fun j g1 g2 => by omega, ?_⟩
    by_cases c : n + 1 ≤ least
    · exact .inl c
    right; rw [Nat.add_sub_cancel]; exact fun e => h ⟨by omega, e⟩
theorem ctn_le (l : List Nat) (least : Nat) : ctn l least ≤ l.length := (ctg_spec l least l.length).1
theorem ctn_ge {l : List Nat} {least : Nat} (h : least ≤ l.length) : least ≤ ctn l least := (ctg_spec l least l.length).2.1 h
theorem ctn_zero {l : List Nat} {least j : Nat} (h : ctn l least ≤ j) : l.getD j 0 = 0 := by
 by_cases hj : j < l.length
 · exact (ctg_spec l least l.length).2.2.1 j h hj
 rw [List.getD_eq_getElem?_getD, List.getElem?_eq_none (by omega)]; rfl
abbrev Stp := Nat × Nat × Nat
def zer (n : Nat) : List Stp := if 11 ≤ n then (18, min n 138 - 11, 7) :: zer (n - min n 138) else if 3 ≤ n then [(17, n - 3, 3)] else List.replicate n (0, 0, 0)
termination_by n
decreasing_by omega
theorem zer_big {n : Nat} (h : 11 ≤ n) : zer n = (18, min n 138 - 11, 7) :: zer (n - min n 138) := by rw [zer, if_pos h]
theorem zer_mid {n : Nat} (h : n < 11) (h2 : 3 ≤ n) : zer n = [(17, n - 3, 3)] := by rw [zer, if_neg (by omega), if_pos h2]
theorem zer_few {n : Nat} (h : n < 3) : zer n = List.replicate n (0, 0, 0) := by rw [zer, if_neg (by omega), if_neg (by omega)]
def eqr (v n : Nat) : List Stp := if 3 ≤ n then (16, min n 6 - 3, 2) :: eqr v (n - min n 6) else List.replicate n (v, 0, 0)
termination_by n
decreasing_by omega
theorem eqr_big {v n : Nat} (h : 3 ≤ n) : eqr v n = (16, min n 6 - 3, 2) :: eqr v (n - min n 6) := by rw [eqr, if_pos h]
theorem eqr_few {v n : Nat} (h : n < 3) : eqr v n = List.replicate n (v, 0, 0) := by rw [eqr, if_neg (by omega)]
def eqs (v n : Nat) : List Stp := (v, 0, 0) :: eqr v (n - 1)
def ren (l : List Nat) (v : Nat) : Nat → Nat → Nat
 | 0, e => e
 | f + 1, e => if e < l.length ∧ l.getD e 0 = v then ren l v f (e + 1) else e
theorem ren_spec (l : List Nat) (v : Nat) : ∀ (f e : Nat), e ≤ ren l v f e ∧ ren l v f e ≤ e + f ∧ (e ≤ l.length → ren l v f e ≤ l.length) ∧ ∀ j, e ≤ j → j < ren l v f e → l.getD j 0 = v
  | 0, e => ⟨Nat.le_refl _, Nat.le_refl _, fun h => h, fun j h1 h2 => by rw [ren] at h2; omega⟩
  | f + 1, e => by
    rw [ren]
    by_cases h : e < l.length ∧ l.getD e 0 = v
    · rw [if_pos h]
      obtain ⟨h1, h2, h3, h4⟩ := ren_spec l v f (e + 1)
      refine ⟨by omega, by omega, fun _ => h3 (by omega), fun j g1 g2 => ?_⟩
      by_cases c : j = e
      · subst c; exact h.2
      exact h4 j (by omega) g2
    rw [if_neg h]; exact ⟨Nat.le_refl _, by omega, fun h => h, fun j h1 h2 => by omega⟩
def rend (l : List Nat) (a : Nat) : Nat := ren l (l.getD a 0) (l.length - a) a
theorem rend_spec {l : List Nat} {a : Nat} (h : a < l.length) : a < rend l a ∧ rend l a ≤ l.length ∧ ∀ j, a ≤ j → j < rend l a → l.getD j 0 = l.getD a 0 := by
 obtain ⟨h1, h2, h3, h4⟩ := ren_spec l (l.getD a 0) (l.length - a) a
 refine ⟨?_, h3 (by omega), h4⟩
 unfold rend
 obtain ⟨f, hf⟩ : ∃ f, l.length - a = f + 1 := ⟨l.length - a - 1, by omega⟩
 rw [hf, ren, if_pos ⟨h, rfl⟩]
 have := (ren_spec l (l.getD a 0) f (a + 1)).1; omega
def sq (l : List Nat) (a : Nat) : List Stp :=
 if h : a < l.length then (if l.getD a 0 = 0 then zer (rend l a - a) else eqs (l.getD a 0) (rend l a - a)) ++ sq l (rend l a) else []
termination_by l.length - a
decreasing_by have := rend_spec h; omega
theorem sq_on {l : List Nat} {a : Nat} (h : a < l.length) : sq l a = (if l.getD a 0 = 0 then zer (rend l a - a) else eqs (l.getD a 0) (rend l a - a)) ++ sq l (rend l a) := by rw [sq, dif_pos h]
theorem sq_end {l : List Nat} {a : Nat} (h : l.length ≤ a) : sq l a = [] := by rw [sq, dif_neg (by omega)]
def Sok (m : Nat) (x : Stp) : Prop := (x.1 ≤ m ∧ x.2 = (0, 0)) ∨ (x.1 = 16 ∧ x.2.2 = 2 ∧ x.2.1 < 4) ∨ (x.1 = 17 ∧ x.2.2 = 3 ∧ x.2.1 < 8) ∨ (x.1 = 18 ∧ x.2.2 = 7 ∧ x.2.1 < 128)
theorem zer_ok (m n : Nat) : ∀ x ∈ zer n, Sok m x := by
  intro x hx
  by_cases h : 11 ≤ n
  · rw [zer_big h] at hx
    rcases List.mem_cons.1 hx with rfl | hx
    · right; right; right; exact ⟨rfl, rfl, by show min n 138 - 11 < 128; omega⟩
    exact zer_ok m _ x hx
  by_cases h2 : 3 ≤ n
  · rw [zer_mid (by omega) h2, List.mem_singleton] at hx; subst hx
    right; right; left; exact ⟨rfl, rfl, by show n - 3 < 8; omega⟩
  rw [zer_few (by omega)] at hx
  rw [List.eq_of_mem_replicate hx]; exact .inl ⟨Nat.zero_le _, rfl⟩
termination_by n
decreasing_by omega
theorem eqr_ok {m v : Nat} (hv : v ≤ m) (n : Nat) : ∀ x ∈ eqr v n, Sok m x := by
  intro x hx
  by_cases h : 3 ≤ n
  · rw [eqr_big h] at hx
    rcases List.mem_cons.1 hx with rfl | hx
    · right; left; exact ⟨rfl, rfl, by show min n 6 - 3 < 4; omega⟩
    exact eqr_ok hv _ x hx
  rw [eqr_few (by omega)] at hx
  rw [List.eq_of_mem_replicate hx]; exact .inl ⟨hv, rfl⟩
termination_by n
decreasing_by omega
theorem sq_ok {m : Nat} {l : List Nat} (hl : ∀ n ∈ l, n ≤ m) (a : Nat) : ∀ x ∈ sq l a, Sok m x := by
  by_cases h : a < l.length
  · rw [sq_on h]
    intro x hx
    rcases List.mem_append.1 hx with hx | hx
    · split at hx
      · exact zer_ok m _ x hx
      have hv : l.getD a 0 ≤ m := by rw [Pf.getD_eq h]; exact hl _ (List.getElem_mem h)
      rcases List.mem_cons.1 hx with rfl | hx
      · exact .inl ⟨hv, rfl⟩
      exact eqr_ok hv _ x hx
    have := rend_spec h
    exact sq_ok hl (rend l a) x hx
  rw [sq_end (by omega)]; intro x hx; cases hx
termination_by l.length - a
decreasing_by have := rend_spec h; omega
theorem zer_len (n : Nat) : (zer n).length ≤ n := by
 by_cases h : 11 ≤ n
 · rw [zer_big h, List.length_cons]; have := zer_len (n - min n 138); omega
 by_cases h2 : 3 ≤ n
 · rw [zer_mid (by omega) h2]; simp; omega
 rw [zer_few (by omega), List.length_replicate]; omega
termination_by n
decreasing_by omega
theorem eqr_len (v n : Nat) : (eqr v n).length ≤ n := by
 by_cases h : 3 ≤ n
 · rw [eqr_big h, List.length_cons]; have := eqr_len v (n - min n 6); omega
 rw [eqr_few (by omega), List.length_replicate]; omega
termination_by n
decreasing_by omega
theorem sq_len (l : List Nat) (a : Nat) : (sq l a).length ≤ l.length - a := by
  by_cases h : a < l.length
  · have hr := rend_spec h
    have := sq_len l (rend l a)
    rw [sq_on h, List.length_append]
    split
    · have := zer_len (rend l a - a); omega
    have := eqr_len (l.getD a 0) (rend l a - a - 1)
    rw [eqs, List.length_cons]; omega
  rw [sq_end (by omega)]; simp
termination_by l.length - a
def ordL : List Nat := [16, 17, 18, 0, 8, 7, 9, 6, 10, 5, 11, 4, 12, 3, 13, 2, 14, 1, 15]
def allL (L D : List Nat) : List Nat := L.take (ctn L 257) ++ D.take (ctn D 1)
def frqS (st : List Stp) : List Nat := cnl (List.replicate 19 0) (st.map Prod.fst)
def lst (c : List Nat) : List Nat := ordL.map fun s => c.getD s 0
noncomputable def sbits (c : List Nat) (x : Stp) : List Bool := btv (Pf.code c x.1) (c.getD x.1 0) ++ low x.2.1 x.2.2
noncomputable def hdr3 (c : List Nat) (k : Nat) : List Bool := ((lst c).take k).flatMap fun n => low n 3
noncomputable def hdr (L D : List Nat) : List Bool :=
 low (ctn L 257 - 257) 5 ++ low (ctn D 1 - 1) 5 ++ low (ctn (lst (oln (frqS (sq (allL L D) 0)) 7)) 4 - 4) 4 ++ hdr3 (oln (frqS (sq (allL L D) 0)) 7) (ctn (lst (oln (frqS (sq (allL L D) 0)) 7)) 4)
  ++ (sq (allL L D) 0).flatMap (sbits (oln (frqS (sq (allL L D) 0)) 7))
theorem frqS_len (st : List Stp) : (frqS st).length = 19 := by unfold frqS; rw [cnl_len, List.length_replicate]
theorem frqS_bd (st : List Stp) : ∀ n ∈ frqS st, n ≤ st.length := fun n hn => by
 have h1 := cnl_bd (ks := st.map Prod.fst) (z := List.replicate 19 0) (B := 0) (fun n hn => by rw [List.eq_of_mem_replicate hn]; exact Nat.le_refl _) n hn
 rw [List.length_map] at h1; omega
theorem frqS_snoc {st : List Stp} {i : Nat} (h : i < st.length) : frqS (st.take (i + 1)) = bmp (frqS (st.take i)) st[i].1 := by
 unfold frqS
 rw [List.map_take, cnl_snoc (by rw [List.length_map]; exact h), List.getElem_map, List.map_take]
theorem lst_len (c : List Nat) : (lst c).length = 19 := rfl
end Df
end Go.Proofs.YtajklleiifhipaaGreatDoor
namespace Go.Proofs.YtajklleiifhipaaGreatDoor
open Go.RowKit Sym
theorem elem_Tdeflate_step : Elem Tryz.prog 125 3 24 := elem_of (z := .agg #[.int .i64 0, .int .i64 0, .int .i64 0]) (by kernel_rfl) rfl (by decide)
open Df (Stp)
abbrev es (x : Stp) : List Value := [i64 (x.1 : Int), i64 (x.2.1 : Int), i64 (x.2.2 : Int)]
theorem es_one (a : Stp) : ∀ x ∈ es a, x.oneCell' = true := ones rfl $ ones rfl $ ones rfl $ ones_nil
theorem nz_rep (n : Nat) : nz (List.replicate n 0) = List.replicate n (0 : Int) := by unfold nz; rw [List.map_replicate]; rfl
theorem nz_set (l : List Nat) (k n : Nat) : (nz l).set k (n : Int) = nz (l.set k n) := by unfold nz; rw [List.map_set]
theorem nz_gd {l : List Nat} {k : Nat} (h : k < (nz l).length) : (nz l)[k] = ((l.getD k 0 : Nat) : Int) := by
 have h' : k < l.length := by rw [nz_len] at h; exact h
 rw [nz_get h', Pf.getD_eq h']
theorem cdv_ok {c : List Nat} (hb : ∀ n ∈ c, n ≤ 30) (hk : Pf.kr c ≤ 1073741824) (hl : c.length ≤ 4096) : cdv (nz c) = Pf.cdl c := by
 have h : ckv (nz c) = 0 := by
  unfold ckv
  rw [if_neg (by rw [nz_len]; omega), if_pos (show okr (nz c) 30 = true from Df.okr_nz' (m := 30) hb), Df.toN_nz', if_neg (by omega)]
 rw [cdv, if_pos h, Df.toN_nz']
theorem gdB {l : List Nat} {B : Nat} (h : ∀ n ∈ l, n ≤ B) (s : Nat) : l.getD s 0 ≤ B := by
 by_cases hs : s < l.length
 · rw [Pf.getD_eq hs]; exact h _ (List.getElem_mem hs)
 rw [List.getD_eq_getElem?_getD, List.getElem?_eq_none (by omega)]; exact Nat.zero_le _
set_option maxHeartbeats 2000000 in
set_option maxRecDepth 4000 in
theorem ownLengths_ret (p : Value) (ts : List Nat) (w : World) (hr : RdL i64 w p (nz ts)) (htk : ∀ t ∈ ts, Df.Tok t) (hl : ts.length ≤ 1000000) :
  Ret Tryz.prog 64 #[p] w fun v w' => ∃ v2 v3, v = .tuple #[v2, v3] ∧ M w Nn w' [Rg.sl i64 3 v2 (nz (Df.oln (Df.fql ts) 15)), Rg.sl i64 3 v3 (nz (Df.oln (Df.fqd ts) 15))] := by
 have hM := M.start w
 refine enter Tryz.func64 rfl (by kernel_rfl) Tryz.ntmps64 rfl $ Kb $ Kn rfl $ Kc rfl $ C.cut2 [(0, _)] rfl (fun (v8 : Value) (v9 : Value) => [(4, v8), (5, v9)]) (fun (v8 : Value) (v9 : Value) w' => M w (Nn) w' [Rg.sl i64 3 v8 (nz (List.replicate 286 0)), Rg.sl i64 3 v9 (nz (List.replicate 30 0))]) ?_ ?_
 ·
  refine C.heldE (by kernel_rfl) fun wh0 hwh0 _ => ?_
  have hS := hwh0
  have hM0 := hM
  have hM := M.ofExt hwh0
  refine H.two 0 1 rfl rfl (by kernel_rfl) ?_ ?_
  ·
   refine E.makeM (by_ := 8) (enc := i64) 0 hM rfl U76 (by kernel_rfl) rfl (by (simp only [List.length_replicate, List.length_append, List.length_set, List.length_cons, List.length_nil, List.length_map, List.length_range, List.length_take, List.length_drop, List.length_zipWith] at *; omega)) (by (simp only [List.length_replicate, List.length_append, List.length_set, List.length_cons, List.length_nil, List.length_map, List.length_range, List.length_take, List.length_drop, List.length_zipWith] at *; omega)) rfl ?_
   intro v8 w1 hM
   try dsimp only [Za, Zb, Zc, Zd, repl] at hM
   have hS := hM.toExt
   refine H.back hS $ Kt 2 rfl (by kernel_rfl) hS (fun w' hS => by have hM := hM0.ext hS; exact Y.asg rfl) rfl $ H.only 1 rfl (by kernel_rfl) $ E.makeM (by_ := 8) (enc := i64) 0 hM rfl U76 (by kernel_rfl) rfl (by (simp only [List.length_replicate, List.length_append, List.length_set, List.length_cons, List.length_nil, List.length_map, List.length_range, List.length_take, List.length_drop, List.length_zipWith] at *; omega)) (by (simp only [List.length_replicate, List.length_append, List.length_set, List.length_cons, List.length_nil, List.length_map, List.length_range, List.length_take, List.length_drop, List.length_zipWith] at *; omega)) rfl ?_
   intro v9 w2 hM
   try dsimp only [Za, Zb, Zc, Zd, repl] at hM
   have hS := hM.toExt
   refine H.back hS $ Kt 3 rfl (by kernel_rfl) hS (fun w' hS => by have hM := hM0.ext hS; exact Y.asg rfl) rfl $ H.done (by kernel_rfl) ?_
   have hM := hM0.call hM
   refine X.join2 v8 v9 (Sub.cons rfl $ S1 rfl) rfl (hM.to (by rw [nz_rep, nz_rep]; rfl))
  refine E.makeM (by_ := 8) (enc := i64) 0 hM rfl U76 (by kernel_rfl) rfl (by (simp only [List.length_replicate, List.length_append, List.length_set, List.length_cons, List.length_nil, List.length_map, List.length_range, List.length_take, List.length_drop, List.length_zipWith] at *; omega)) (by (simp only [List.length_replicate, List.length_append, List.length_set, List.length_cons, List.length_nil, List.length_map, List.length_range, List.length_take, List.length_drop, List.length_zipWith] at *; omega)) rfl ?_
  intro v9 w3 hM
  try dsimp only [Za, Zb, Zc, Zd, repl] at hM
  have hS := hM.toExt
  refine H.back hS $ H.only 0 rfl (by kernel_rfl) $ E.makeM (by_ := 8) (enc := i64) 0 hM rfl U76 (by kernel_rfl) rfl (by (simp only [List.length_replicate, List.length_append, List.length_set, List.length_cons, List.length_nil, List.length_map, List.length_range, List.length_take, List.length_drop, List.length_zipWith] at *; omega)) (by (simp only [List.length_replicate, List.length_append, List.length_set, List.length_cons, List.length_nil, List.length_map, List.length_range, List.length_take, List.length_drop, List.length_zipWith] at *; omega)) rfl ?_
  intro v8 w4 hM
  try dsimp only [Za, Zb, Zc, Zd, repl] at hM
  have hS := hM.toExt
  refine H.back hS $ Kt 2 rfl (by kernel_rfl) hS (fun w' hS => by have hM := hM0.ext hS; exact Y.asg rfl) rfl $ Kt 3 rfl (by kernel_rfl) hS (fun w' hS => by have hM := hM0.ext hS; exact Y.asg rfl) rfl $ H.done (by kernel_rfl) ?_
  have hM := hM0.call hM
  refine X.join2 v8 v9 (Sub.cons rfl $ S1 rfl) rfl ((hM.pick [1, 0] (by decide)).to (by rw [nz_rep, nz_rep]; rfl))
 rintro v8 v9 w5 hM
 refine Kb $ Km rfl $ E.idx1 (k := 256) rfl rfl (hM.sl 0 rfl) rfl (by rw [nz_len, List.length_replicate]; omega) U76 (by kernel_rfl) rfl $ E.storeL (enc := i64) 0 ((1 : Nat) : Int) hM rfl rfl rfl (by kernel_rfl) rfl rfl (by rw [nz_len, List.length_replicate]; omega) ?_
 intro w6 hM
 try dsimp only [Za, Zb, Zc, Zd, repl] at hM
 rw [nz_set] at hM
 refine Ka $ C.seq $ Kb $ Km rfl $ E.lenv rfl (Rd.shape (hM.arg0 hr)) U76 rfl ?_
 rw [nz_len]
 refine Km rfl $ Ka $ C.block $ C.loop1 [(4, _), (5, _), (12, _), (13, _)] rfl (fun (i : Nat) => [(14, i64 i)]) (fun (i : Nat) w' => M w (Nn) w' [Rg.sl i64 3 v8 (nz (Df.fql (ts.take i))), Rg.sl i64 3 v9 (nz (Df.fqd (ts.take i)))] ∧ i ≤ ts.length) (fun (i : Nat) => ts.length - i) 0 ?_ ?_ ?_
 · exact S1 rfl
 · exact ⟨hM, Nat.zero_le _⟩
 rintro i w7 ⟨hM, hi⟩
 refine Kb $ Kp rfl $ Ka $ C.seq $ C.cond' rfl (fun hC0 => ?_) (fun hC0 => ?_)
 ·
  have hi' : i < ts.length := by omega
  obtain ⟨t, hte⟩ : ∃ t, t = ts[i] := ⟨_, rfl⟩
  have htt := htk ts[i] (List.getElem_mem hi')
  have hsn := Df.fql_snoc hi'
  have hln := Df.fql_len (ts.take i)
  have hdn := Df.fqd_len (ts.take i)
  have hlb := Df.fql_bd (ts.take i)
  have hdb := Df.fqd_bd (ts.take i)
  have htl : (ts.take i).length ≤ 1000000 := by rw [List.length_take]; omega
  rw [← hte] at htt hsn
  refine Kk $ C.cut0 [(4, _), (5, _), (12, _), (13, _), (14, _)] rfl [] (fun w' => M w (Nn) w' [Rg.sl i64 3 v8 (nz (Df.fql (ts.take (i + 1)))), Rg.sl i64 3 v9 (nz (Df.fqd (ts.take (i + 1))))]) ?_ ?_
  ·
   refine C.block $ Kb $ E.get (k := i) rfl rfl (hM.arg0 hr) rfl (by rw [nz_len]; omega) U76 (by kernel_rfl) U3 rfl rfl rfl ?_
   rw [nz_get hi', ← hte]
   refine Kd rfl $ Km rfl $ Kp rfl $ Ka $ C.cond' rfl (fun hC1 => ?_) (fun hC1 => ?_)
   ·
    have h255 : ¬ t ≤ 255 := by omega
    obtain ⟨h3, h258, hd1, hd2⟩ := htt.resolve_left h255
    obtain ⟨ga, gb, gc, gd⟩ := Df.lsy_spec h3 h258
    obtain ⟨ka, kb, kc⟩ := Df.dsy_spec hd1 hd2
    have htb : t ≤ 16973823 := by omega
    have hmt := Df.fqd_mat hi' (by rw [← hte]; exact h255)
    rw [← hte] at hmt
    rw [Df.lsm, if_neg h255] at hsn
    refine Kb $ Kf rfl $ E.shr rfl rfl (by decide) (shr16 t) rfl $ E.call rfl rfl (lengthSymbol_ret (t / 65536) _ h3 h258) ?_
    rintro _ w2 ⟨rfl, x2⟩
    have hM := hM.ext x2
    try dsimp only [Za, Zb, Zc, Zd, repl] at hM
    refine E.get (k := (Df.lsy (t / 65536))) rfl rfl (hM.sl 0 rfl) rfl (by rw [nz_len]; omega) U76 (by kernel_rfl) U3 rfl rfl rfl ?_
    rw [nz_gd]
    refine E.addN (a := (Df.fql (ts.take i)).getD (Df.lsy (t / 65536)) 0) (b := 1) rfl rfl (by have := gdB hlb ((Df.lsy (t / 65536))); omega) rfl $ E.idx1 (k := (Df.lsy (t / 65536))) rfl rfl (hM.sl 0 rfl) rfl (by rw [nz_len]; omega) U76 (by kernel_rfl) rfl $ E.storeL (enc := i64) 0 (((Df.fql (ts.take i)).getD (Df.lsy (t / 65536)) 0 + 1 : Nat) : Int) hM rfl rfl rfl (by kernel_rfl) rfl rfl (by rw [nz_len]; omega) ?_
    intro w9 hM
    try dsimp only [Za, Zb, Zc, Zd, repl] at hM
    rw [Df.nz_bmp] at hM
    refine Ka $ C.region $ Kf rfl $ E.binw rfl rfl rfl (congrArg _ (low16 t (by omega))) rfl $ E.call rfl rfl (distanceSymbol_ret (t % 65536) _ hd1) ?_
    rintro _ w3 ⟨rfl, x3⟩
    have hM := hM.ext x3
    try dsimp only [Za, Zb, Zc, Zd, repl] at hM
    refine E.get (k := (Df.dsy (t % 65536))) rfl rfl (hM.sl 1 rfl) rfl (by rw [nz_len]; omega) U76 (by kernel_rfl) U3 rfl rfl rfl ?_
    rw [nz_gd]
    refine E.addN (a := (Df.fqd (ts.take i)).getD (Df.dsy (t % 65536)) 0) (b := 1) rfl rfl (by have := gdB hdb ((Df.dsy (t % 65536))); omega) rfl $ E.idx1 (k := (Df.dsy (t % 65536))) rfl rfl (hM.sl 1 rfl) rfl (by rw [nz_len]; omega) U76 (by kernel_rfl) rfl $ E.storeL (enc := i64) 1 (((Df.fqd (ts.take i)).getD (Df.dsy (t % 65536)) 0 + 1 : Nat) : Int) hM rfl rfl rfl (by kernel_rfl) rfl rfl (by rw [nz_len]; omega) ?_
    intro w11 hM
    try dsimp only [Za, Zb, Zc, Zd, repl] at hM
    rw [Df.nz_bmp] at hM
    refine E.nil $ X.outN $ X.join0  (Sub.nil _) rfl (hM.to (by rw [hsn, hmt]))
   have h255 : t ≤ 255 := by omega
   rw [Df.lsm, if_pos h255] at hsn
   have hlt := Df.fqd_lit hi' (by rw [← hte]; exact h255)
   refine C.region $ Kf rfl $ E.get (k := t) rfl rfl (hM.sl 0 rfl) rfl (by rw [nz_len]; omega) U76 (by kernel_rfl) U3 rfl rfl rfl ?_
   rw [nz_gd]
   refine E.addN (a := (Df.fql (ts.take i)).getD t 0) (b := 1) rfl rfl (by have := gdB hlb (t); omega) rfl $ E.idx1 (k := t) rfl rfl (hM.sl 0 rfl) rfl (by rw [nz_len]; omega) U76 (by kernel_rfl) rfl $ E.storeL (enc := i64) 0 (((Df.fql (ts.take i)).getD t 0 + 1 : Nat) : Int) hM rfl rfl rfl (by kernel_rfl) rfl rfl (by rw [nz_len]; omega) ?_
   intro w12 hM
   try dsimp only [Za, Zb, Zc, Zd, repl] at hM
   rw [Df.nz_bmp] at hM
   refine E.nil $ X.outN $ X.join0  (Sub.nil _) rfl (hM.to (by rw [hsn, hlt]))
  rintro  w13 hM
  refine C.region $ E.add rfl rfl (by omega) rfl $ Km rfl $ E.nil $ X.again1 (i + 1) (S1 rfl) rfl ⟨hM, by omega⟩ (by omega)
 obtain rfl : i = ts.length := by omega
 rw [List.take_length] at hM
 refine Kx $ Kb $ Km rfl $ E.call rfl rfl (Lengths_ret v8 (nz (Df.fql ts)) 15 _ (hM.sl 0 rfl)) ?_
 rintro _ w5 ⟨v45, rfl, m⟩
 have hM := hM.call m
 rw [show lnv (nz (Df.fql ts)) 15 = _ from (Df.oln_law (fs := Df.fql ts) (m := 15) (by decide) (by decide) (fun n hn => by have := Df.fql_bd ts n hn; omega) (by rw [Df.fql_len]; decide) (by rw [Df.fql_len]; decide)).1] at hM
 try dsimp only [Za, Zb, Zc, Zd, repl] at hM
 refine Km rfl $ E.ext rfl rfl rfl $ E.ext rfl rfl rfl $ Kd rfl $ Km rfl $ E.call rfl rfl (Lengths_ret v9 (nz (Df.fqd ts)) 15 _ (hM.sl 1 rfl)) ?_
 rintro _ w6 ⟨v50, rfl, m⟩
 have hM := hM.call m
 rw [show lnv (nz (Df.fqd ts)) 15 = _ from (Df.oln_law (fs := Df.fqd ts) (m := 15) (by decide) (by decide) (fun n hn => by have := Df.fqd_bd ts n hn; omega) (by rw [Df.fqd_len]; decide) (by rw [Df.fqd_len]; decide)).1] at hM
 try dsimp only [Za, Zb, Zc, Zd, repl] at hM
 refine Km rfl $ E.ext rfl rfl rfl $ E.ext rfl rfl rfl $ Kd rfl $ Kf rfl $ Kn rfl $ Kc rfl $ C.ret $ ret2 rfl rfl rfl ?_
 exact ⟨_, _, rfl, hM.pick [2, 3] (by decide)⟩
theorem cut_ret (p : Value) (l : List Nat) (least : Nat) (w : World) (hr : RdL i64 w p (nz l)) :
  Ret Tryz.prog 96 #[p, i64 least] w fun v w' => v = partV p 0 (Df.ctn l least) ∧ Ext w w' := by
 have hM := M.start w
 refine enter Tryz.func96 rfl (by kernel_rfl) Tryz.ntmps96 rfl $ Kb $ Kd rfl $ Km rfl $ E.lenv rfl (Rd.shape (hM.arg0 hr)) U76 rfl ?_
 rw [nz_len]
 have hle := Rd.le hr
 have hnl := nz_len l
 refine Kc rfl $ C.seq $ C.block $ C.loop1 [(0, _), (1, _)] rfl (fun (n : Nat) => [(5, i64 n)]) (fun (n : Nat) w' => M w (Nn) w' [] ∧ n ≤ l.length ∧ Df.ctg l least n = Df.ctn l least) (fun (n : Nat) => n) l.length ?_ ?_ ?_
 · exact S1 rfl
 · exact ⟨hM, Nat.le_refl _, rfl⟩
 rintro n w0 ⟨hM, hn, hc⟩
 refine C.seq $ C.chainE [(0, _), (1, _), (5, _)] rfl [(18, .bool (decide (least < n ∧ l.getD (n - 1) 0 = 0)))] ?_ ?_
 ·
  refine C.region $ Kf rfl $ Kp rfl $ Km rfl $ E.split 11 rfl (fun g11 => ?_) (fun g11 => ?_)
  ·
   try simp only [Ya, Yb, Yc, Yd, Ye, Yf] at g11
   refine Ko rfl $ Km rfl $ Ko rfl $ Km rfl $ Ko rfl $ E.subN (a := n) (b := 1) rfl rfl (by omega) rfl $ Ko rfl $ E.idx1 (k := n - 1) rfl rfl (hM.arg0 hr) rfl (by omega) U76 (by kernel_rfl) rfl $ Ko rfl $ E.load rfl U3 rfl ((hM.arg0 hr).cellA rfl (by omega)) rfl ?_
   rw [nz_gd]
   refine Ko rfl $ Kp rfl $ Kr rfl $ E.nil $ X.join0 (Sub.cons (by exact leaf_d (by omega)) $ Sub.nil _) rfl rfl
  try simp only [Ya, Yb, Yc, Yd, Ye, Yf] at g11
  refine Kq rfl $ Kq rfl $ Kq rfl $ Kq rfl $ Kq rfl $ Kq rfl $ Kr rfl $ E.nil $ X.join0 (Sub.cons (by exact leaf_f (by omega)) $ Sub.nil _) rfl rfl
 refine C.cond' rfl (fun hC0 => ?_) (fun hC0 => ?_)
 ·
  obtain ⟨q, rfl⟩ : ∃ q, n = q + 1 := ⟨n - 1, by omega⟩
  rw [Nat.add_sub_cancel] at hC0
  rw [Df.ctg, if_pos hC0] at hc
  refine Kk $ C.block $ C.region $ Km rfl $ E.subN (a := q + 1) (b := 1) rfl rfl (by omega) rfl $ Kn rfl $ E.nil $ X.outN $ X.again1 q (S1 rfl) rfl ⟨hM, by omega, hc⟩ (by omega)
 have hfin : Df.ctn l least = n := by
  cases n with
  | zero => rw [← hc]; rfl
  | succ q => rw [Nat.add_sub_cancel] at hC0; rw [← hc, Df.ctg, if_neg hC0]
 refine Kx $ Kb $ Kf rfl $ E.slcP (k := .i64) 0 n rfl (.inr ⟨rfl, rfl⟩) (.inl rfl) (hM.arg0 hr) U76 (by kernel_rfl) (by omega) (by omega) rfl $ Kc rfl $ C.ret $ ret1 rfl rfl ?_
 exact ⟨by rw [hfin], hM.toExt⟩
set_option maxHeartbeats 1000000 in
theorem appendZeros_ret (p : Value) (xs : List Stp) (n : Nat) (w : World) (hs : Sep w [Rg.slF es 3 125 p xs]) (hl : xs.length + n ≤ 1000000) :
  Ret Tryz.prog 139 #[p, i64 n] w fun v w' => M w (fpU [Rg.slF es 3 125 p xs]) w' [Rg.slF es 3 125 v (xs ++ Df.zer n)] := by
 have hM := M.startS hs
 refine enter Tryz.func139 rfl (by kernel_rfl) Tryz.ntmps139 rfl $ Kb $ Kc rfl $ C.seq $ C.block $ C.loop3 [] rfl (fun (m : Nat) (ys : (List Stp)) (vo : Value) => [(0, vo), (1, i64 m)]) (fun (m : Nat) (ys : (List Stp)) (vo : Value) w' => M w (fpU [Rg.slF es 3 125 p xs]) w' [Rg.slF es 3 125 vo ys] ∧ ys.length + m ≤ 1000000 ∧ xs ++ Df.zer n = ys ++ Df.zer m) (fun (m : Nat) (ys : (List Stp)) (vo : Value) => m) n xs p ?_ ?_ ?_
 · exact Sub.cons rfl $ S1 rfl
 · exact ⟨hM, hl, rfl⟩
 rintro m ys vo w0 ⟨hM, hy, hz⟩
 refine C.seq $ Kb $ Km rfl $ Kp rfl $ Ka $ C.cond' rfl (fun hC0 => ?_) (fun hC0 => ?_)
 ·
  rw [Df.zer_big (n := m) (by omega)] at hz
  refine Kk $ C.block $ Kb $ Km rfl $ E.min2 rfl rfl rfl ?_
  rw [show min (m : Int) 138 = ((min m 138 : Nat) : Int) by omega]
  refine Kd rfl $ Kf rfl $ E.subN (a := min m 138) (b := 11) rfl rfl (by omega) rfl $ E.buildC (cs := [_, _, _]) [.int .i64 0, .int .i64 0, .int .i64 0] [0, 1, 2] rfl rfl (by kernel_rfl) rfl $ E.pushFM 0 (18, min m 138 - 11, 7) hM rfl rfl rfl Tryz.underlying122 elem_Tdeflate_step rfl (by decide) (es_one _) (by omega) (by omega) (by simp) rfl rfl ?_
  intro v15 u15 w1 hM
  try dsimp only [Za, Zb, Zc, Zd, repl] at hM
  refine Kc rfl $ C.region $ Kf rfl $ E.subN (a := m) (b := min m 138) rfl rfl (by omega) rfl $ Kn rfl $ E.nil $ X.outN $ X.again3 (m - min m 138) (ys ++ [(18, min m 138 - 11, 7)]) v15 (Sub.cons rfl $ S1 rfl) rfl ⟨hM, by rw [List.length_append, List.length_singleton]; omega, by rw [hz, List.append_assoc]; rfl⟩ (by omega)
 refine Kx $ C.cut3 [] rfl (fun (k : Nat) (ys : (List Stp)) (vo : Value) => [(0, vo), (1, i64 k)]) (fun (k : Nat) (ys : (List Stp)) (vo : Value) w' => M w (fpU [Rg.slF es 3 125 p xs]) w' [Rg.slF es 3 125 vo ys] ∧ ys.length + k ≤ 1000000 ∧ xs ++ Df.zer n = ys ++ List.replicate k (0, 0, 0)) ?_ ?_
 ·
  refine Kb $ Km rfl $ Kp rfl $ Ka $ C.cond' rfl (fun hC1 => ?_) (fun hC1 => ?_)
  ·
   rw [Df.zer_mid (n := m) (by omega) (by omega)] at hz
   refine Kb $ Kf rfl $ E.subN (a := m) (b := 3) rfl rfl (by omega) rfl $ E.buildC (cs := [_, _, _]) [.int .i64 0, .int .i64 0, .int .i64 0] [0, 1, 2] rfl rfl (by kernel_rfl) rfl $ E.pushFM 0 (17, m - 3, 3) hM rfl rfl rfl Tryz.underlying122 elem_Tdeflate_step rfl (by decide) (es_one _) (by omega) (by omega) (by simp) rfl rfl ?_
   intro v26 u26 w2 hM
   try dsimp only [Za, Zb, Zc, Zd, repl] at hM
   refine Kc rfl $ C.region $ Kn rfl $ E.nil $ X.join3 0 (ys ++ [(17, m - 3, 3)]) v26 (Sub.cons rfl $ S1 rfl) rfl ⟨hM, by rw [List.length_append, List.length_singleton]; omega, by rw [hz]; simp⟩
  rw [Df.zer_few (n := m) (by omega)] at hz
  refine C.skip $ X.join3 m ys vo (Sub.cons rfl $ S1 rfl) rfl ⟨hM, hy, hz⟩
 rintro k ys vo w3 ⟨hM, hy, hz⟩
 refine C.seq $ Kb $ Kf rfl $ Ka $ C.block $ C.loop2 [(27, _)] rfl (fun (q : Nat) (vq : Value) => [(0, vq), (28, i64 q)]) (fun (q : Nat) (vq : Value) w' => M w (fpU [Rg.slF es 3 125 p xs]) w' [Rg.slF es 3 125 vq (ys ++ List.replicate q (0, 0, 0))] ∧ q ≤ k) (fun (q : Nat) (vq : Value) => k - q) 0 vo ?_ ?_ ?_
 · exact Sub.cons rfl $ S1 rfl
 · exact ⟨hM.to (by rw [List.replicate_zero, List.append_nil]), Nat.zero_le _⟩
 rintro q vq w4 ⟨hM, hq⟩
 refine Kb $ Kp rfl $ Ka $ C.seq $ C.cond' rfl (fun hC2 => ?_) (fun hC2 => ?_)
 ·
  refine Kk $ C.seq $ C.block $ C.region $ Km rfl $ E.buildC (cs := [_, _, _]) [.int .i64 0, .int .i64 0, .int .i64 0] [] rfl rfl (by kernel_rfl) rfl $ E.pushFM 0 (0, 0, 0) hM rfl rfl rfl Tryz.underlying122 elem_Tdeflate_step rfl (by decide) (es_one _) (by rw [List.length_append, List.length_replicate]; omega) (by rw [List.length_append, List.length_replicate]; omega) (by simp) rfl rfl ?_
  intro v33 u33 w5 hM
  try dsimp only [Za, Zb, Zc, Zd, repl] at hM
  refine Kn rfl $ E.nil $ X.outN $ X.next $ C.region $ E.addN (a := q) (b := 1) rfl rfl (by omega) rfl $ Km rfl $ E.nil $ X.again2 (q + 1) v33 (Sub.cons rfl $ S1 rfl) rfl ⟨hM.to (by rw [List.append_assoc, ← List.replicate_succ']), by omega⟩ (by omega)
 obtain rfl : q = k := by omega
 refine Kx $ Kb $ Km rfl $ Kc rfl $ C.ret $ ret1 rfl rfl ?_
 exact hM.to (by rw [hz])
set_option maxHeartbeats 1000000 in
theorem appendEqual_ret (p : Value) (xs : List Stp) (x n : Nat) (w : World) (hs : Sep w [Rg.slF es 3 125 p xs]) (hl : xs.length + n ≤ 1000000) (hn : 1 ≤ n) :
  Ret Tryz.prog 140 #[p, i64 x, i64 n] w fun v w' => M w (fpU [Rg.slF es 3 125 p xs]) w' [Rg.slF es 3 125 v (xs ++ Df.eqs x n)] := by
 have hM := M.startS hs
 refine enter Tryz.func140 rfl (by kernel_rfl) Tryz.ntmps140 rfl $ Kb $ Kd rfl $ Kf rfl $ E.buildC (cs := [_, _, _]) [.int .i64 0, .int .i64 0, .int .i64 0] [0] rfl rfl (by kernel_rfl) rfl $ E.pushFM 0 (x, 0, 0) hM rfl rfl rfl Tryz.underlying122 elem_Tdeflate_step rfl (by decide) (es_one _) (by omega) (by omega) (by simp) rfl rfl ?_
 intro v12 u12 w0 hM
 try dsimp only [Za, Zb, Zc, Zd, repl] at hM
 refine Kd rfl $ Km rfl $ E.subN (a := n) (b := 1) rfl rfl (by omega) rfl $ Kc rfl $ C.seq $ C.block $ C.loop3 [(1, _)] rfl (fun (m : Nat) (ys : (List Stp)) (vo : Value) => [(0, vo), (2, i64 m)]) (fun (m : Nat) (ys : (List Stp)) (vo : Value) w' => M w (fpU [Rg.slF es 3 125 p xs]) w' [Rg.slF es 3 125 vo ys] ∧ ys.length + m ≤ 1000000 ∧ xs ++ Df.eqs x n = ys ++ Df.eqr x m) (fun (m : Nat) (ys : (List Stp)) (vo : Value) => m) (n - 1) (xs ++ [(x, 0, 0)]) v12 ?_ ?_ ?_
 · exact Sub.cons rfl $ S1 rfl
 · exact ⟨hM, by rw [List.length_append, List.length_singleton]; omega, by rw [Df.eqs, List.append_assoc]; rfl⟩
 rintro m ys vo w1 ⟨hM, hy, hz⟩
 refine C.seq $ Kb $ Km rfl $ Kp rfl $ Ka $ C.cond' rfl (fun hC0 => ?_) (fun hC0 => ?_)
 ·
  rw [Df.eqr_big (n := m) (by omega)] at hz
  refine Kk $ C.block $ Kb $ Km rfl $ E.min2 rfl rfl rfl ?_
  rw [show min (m : Int) 6 = ((min m 6 : Nat) : Int) by omega]
  refine Kd rfl $ Kf rfl $ E.subN (a := min m 6) (b := 3) rfl rfl (by omega) rfl $ E.buildC (cs := [_, _, _]) [.int .i64 0, .int .i64 0, .int .i64 0] [0, 1, 2] rfl rfl (by kernel_rfl) rfl $ E.pushFM 0 (16, min m 6 - 3, 2) hM rfl rfl rfl Tryz.underlying122 elem_Tdeflate_step rfl (by decide) (es_one _) (by omega) (by omega) (by simp) rfl rfl ?_
  intro v24 u24 w2 hM
  try dsimp only [Za, Zb, Zc, Zd, repl] at hM
  refine Kc rfl $ C.region $ Kf rfl $ E.subN (a := m) (b := min m 6) rfl rfl (by omega) rfl $ Kn rfl $ E.nil $ X.outN $ X.again3 (m - min m 6) (ys ++ [(16, min m 6 - 3, 2)]) v24 (Sub.cons rfl $ S1 rfl) rfl ⟨hM, by rw [List.length_append, List.length_singleton]; omega, by rw [hz, List.append_assoc]; rfl⟩ (by omega)
 rw [Df.eqr_few (n := m) (by omega)] at hz
 refine Kx $ C.seq $ Kb $ Kf rfl $ Ka $ C.block $ C.loop2 [(1, _), (28, _)] rfl (fun (q : Nat) (vq : Value) => [(0, vq), (29, i64 q)]) (fun (q : Nat) (vq : Value) w' => M w (fpU [Rg.slF es 3 125 p xs]) w' [Rg.slF es 3 125 vq (ys ++ List.replicate q (x, 0, 0))] ∧ q ≤ m) (fun (q : Nat) (vq : Value) => m - q) 0 vo ?_ ?_ ?_
 · exact Sub.cons rfl $ S1 rfl
 · exact ⟨hM.to (by rw [List.replicate_zero, List.append_nil]), Nat.zero_le _⟩
 rintro q vq w3 ⟨hM, hq⟩
 refine Kb $ Kp rfl $ Ka $ C.seq $ C.cond' rfl (fun hC1 => ?_) (fun hC1 => ?_)
 ·
  refine Kk $ C.seq $ C.block $ C.region $ Kf rfl $ E.buildC (cs := [_, _, _]) [.int .i64 0, .int .i64 0, .int .i64 0] [0] rfl rfl (by kernel_rfl) rfl $ E.pushFM 0 (x, 0, 0) hM rfl rfl rfl Tryz.underlying122 elem_Tdeflate_step rfl (by decide) (es_one _) (by rw [List.length_append, List.length_replicate]; omega) (by rw [List.length_append, List.length_replicate]; omega) (by simp) rfl rfl ?_
  intro v35 u35 w4 hM
  try dsimp only [Za, Zb, Zc, Zd, repl] at hM
  refine Kn rfl $ E.nil $ X.outN $ X.next $ C.region $ E.addN (a := q) (b := 1) rfl rfl (by omega) rfl $ Km rfl $ E.nil $ X.again2 (q + 1) v35 (Sub.cons rfl $ S1 rfl) rfl ⟨hM.to (by rw [List.append_assoc, ← List.replicate_succ']), by omega⟩ (by omega)
 obtain rfl : q = m := by omega
 refine Kx $ Kb $ Km rfl $ Kc rfl $ C.ret $ ret1 rfl rfl ?_
 exact hM.to (by rw [hz])
set_option maxHeartbeats 1000000 in
theorem sequence_ret (p : Value) (l : List Nat) (w : World) (hr : RdL i64 w p (nz l)) (hl : l.length ≤ 1000) :
  Ret Tryz.prog 97 #[p] w fun v w' => M w Nn w' [Rg.slF es 3 125 v (Df.sq l 0)] := by
 have hM := M.start w
 refine enter Tryz.func97 rfl (by kernel_rfl) Tryz.ntmps97 rfl $ Kb $ Kd rfl $ Kc rfl $ C.seq $ Kb $ Kc rfl $ C.block $ ?_
 have hM := hM.nilF es 3 125
 have hnl := nz_len l
 refine C.loop3 [(0, _)] rfl (fun (a : Nat) (xs : (List Stp)) (vo : Value) => [(3, vo), (4, i64 a)]) (fun (a : Nat) (xs : (List Stp)) (vo : Value) w' => M w (Nn) w' [Rg.slF es 3 125 vo xs] ∧ a ≤ l.length ∧ Df.sq l 0 = xs ++ Df.sq l a ∧ xs.length ≤ a) (fun (a : Nat) (xs : (List Stp)) (vo : Value) => l.length - a) 0 [] (.slice none 0 0) ?_ ?_ ?_
 · exact Sub.cons rfl $ S1 rfl
 · exact ⟨hM, Nat.zero_le _, rfl, Nat.le_refl _⟩
 rintro a xs vo w0 ⟨hM, ha, hsq, hxl⟩
 refine C.seq $ Kb $ Kf rfl $ E.lenv rfl (Rd.shape (hM.arg0 hr)) U76 rfl ?_
 rw [nz_len]
 refine Kp rfl $ Ka $ C.cond' rfl (fun hC0 => ?_) (fun hC0 => ?_)
 ·
  have ha' : a < l.length := by omega
  rw [Df.sq_on ha'] at hsq
  obtain ⟨hr1, hr2, hr3⟩ := Df.rend_spec ha'
  refine Kk $ C.block $ Kb $ Kf rfl $ E.get (k := a) rfl rfl (hM.arg0 hr) rfl (by omega) U76 (by kernel_rfl) U3 rfl rfl rfl ?_
  rw [nz_gd]
  refine Km rfl $ Kn rfl $ Kc rfl $ C.seq $ C.block $ C.loop1 [(0, _), (3, _), (4, _), (5, _)] rfl (fun (e : Nat) => [(6, i64 e)]) (fun (e : Nat) w' => M w (Nn) w' [Rg.slF es 3 125 vo xs] ∧ a ≤ e ∧ e ≤ l.length ∧ Df.ren l (l.getD a 0) (l.length - e) e = Df.rend l a) (fun (e : Nat) => l.length - e) a ?_ ?_ ?_
  · exact S1 rfl
  · exact ⟨hM, Nat.le_refl _, ha, rfl⟩
  rintro e w1 ⟨hM, he1, he2, he⟩
  refine C.seq $ C.chainE [(0, _), (3, _), (4, _), (5, _), (6, _)] rfl [(27, .bool (decide (e < l.length ∧ l.getD e 0 = l.getD a 0)))] ?_ ?_
  ·
   refine C.region $ Kf rfl $ E.lenv rfl (Rd.shape (hM.arg0 hr)) U76 rfl ?_
   rw [nz_len]
   refine Kp rfl $ Km rfl $ E.split 20 rfl (fun g20 => ?_) (fun g20 => ?_)
   ·
    try simp only [Ya, Yb, Yc, Yd, Ye, Yf] at g20
    refine Ko rfl $ Km rfl $ Ko rfl $ Km rfl $ Ko rfl $ E.idx1 (k := e) rfl rfl (hM.arg0 hr) rfl (by omega) U76 (by kernel_rfl) rfl $ Ko rfl $ E.load rfl U3 rfl ((hM.arg0 hr).cellA rfl (by omega)) rfl ?_
    rw [nz_gd]
    refine Ko rfl $ Km rfl $ Ko rfl $ Kp rfl $ Kr rfl $ E.nil $ X.join0 (Sub.cons (by exact leaf_d (by omega)) $ Sub.nil _) rfl rfl
   try simp only [Ya, Yb, Yc, Yd, Ye, Yf] at g20
   refine Kq rfl $ Kq rfl $ Kq rfl $ Kq rfl $ Kq rfl $ Kq rfl $ Kr rfl $ E.nil $ X.join0 (Sub.cons (by exact leaf_f (by omega)) $ Sub.nil _) rfl rfl
  refine C.cond' rfl (fun hC1 => ?_) (fun hC1 => ?_)
  ·
   have he' : Df.ren l (l.getD a 0) (l.length - (e + 1)) (e + 1) = Df.rend l a := by
    rw [← he, show l.length - e = l.length - (e + 1) + 1 by omega, Df.ren, if_pos hC1]
   refine Kk $ C.block $ C.region $ Km rfl $ E.addN (a := e) (b := 1) rfl rfl (by omega) rfl $ Kn rfl $ E.nil $ X.outN $ X.again1 (e + 1) (S1 rfl) rfl ⟨hM, by omega, by omega, he'⟩ (by omega)
  have hee : Df.rend l a = e := by
   rw [← he]
   cases h : l.length - e with
   | zero => rfl
   | succ f => rw [Df.ren, if_neg hC1]
  rw [hee] at hsq hr1 hr2
  refine Kx $ C.cut2 [(0, _), (6, _)] rfl (fun (ys : (List Stp)) (vq : Value) => [(3, vq)]) (fun (ys : (List Stp)) (vq : Value) w' => M w (Nn) w' [Rg.slF es 3 125 vq ys] ∧ Df.sq l 0 = ys ++ Df.sq l e ∧ ys.length ≤ e) ?_ ?_
  ·
   refine Kb $ Km rfl $ Kp rfl $ Ka $ C.cond' rfl (fun hC2 => ?_) (fun hC2 => ?_)
   ·
    have h0 : l.getD a 0 = 0 := by omega
    rw [if_pos h0] at hsq
    have hzl := Df.zer_len (e - a)
    refine C.region $ Kf rfl $ Km rfl $ E.subN (a := e) (b := a) rfl rfl (by omega) rfl $ E.call rfl rfl (appendZeros_ret vo xs (e - a) _ (hM.pick [0] (by decide)).sep (by omega)) ?_
    rintro v36 w3 m
    have hM := hM.calls [0] (by decide) rfl (by simp) m
    refine Kn rfl $ E.nil $ X.join2 (xs ++ Df.zer (e - a)) v36 (S1 rfl) rfl ⟨hM, by rw [hsq, List.append_assoc], by rw [List.length_append]; omega⟩
   have h0 : ¬ l.getD a 0 = 0 := by omega
   rw [if_neg h0] at hsq
   have hzl := Df.eqr_len (l.getD a 0) (e - a - 1)
   refine C.region $ Kf rfl $ Kf rfl $ E.subN (a := e) (b := a) rfl rfl (by omega) rfl $ E.call rfl rfl (appendEqual_ret vo xs (l.getD a 0) (e - a) _ (hM.pick [0] (by decide)).sep (by omega) (by omega)) ?_
   rintro v42 w4 m
   have hM := hM.calls [0] (by decide) rfl (by simp) m
   refine Kn rfl $ E.nil $ X.join2 (xs ++ Df.eqs (l.getD a 0) (e - a)) v42 (S1 rfl) rfl ⟨hM, by rw [hsq, List.append_assoc], by rw [List.length_append, Df.eqs, List.length_cons]; omega⟩
  rintro ys vq w4 ⟨hM, hsq, hxl⟩
  refine C.region $ Km rfl $ Kn rfl $ E.nil $ X.outN $ X.again3 e ys vq (Sub.cons rfl $ S1 rfl) rfl ⟨hM, by omega, hsq, hxl⟩ (by omega)
 rw [Df.sq_end (show l.length ≤ a by omega), List.append_nil] at hsq
 refine Kx $ Kb $ Km rfl $ Kc rfl $ C.ret $ ret1 rfl rfl ?_
 exact hM.to (by rw [hsq])
end Go.Proofs.YtajklleiifhipaaGreatDoor
