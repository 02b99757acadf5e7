/- law 38, Limits: pixels that lie apart. Plain mathematics. -/
import Derived.Test.YtnnmebpahickhaaIdem
namespace Go.Proofs.Ytnnmebpahickhaa
set_option linter.unusedSimpArgs false
set_option linter.unusedVariables false
open Go.RowKit Sym Uf Classical

def lim (n i : Nat) : Bool := decide (i % 512 % 2 = 0 ∧ i / 512 % 2 = 0 ∧ i / 512 / 2 * 256 + i % 512 / 2 < n)
theorem lim_iff {n i : Nat} : lim n i = true ↔ i % 512 % 2 = 0 ∧ i / 512 % 2 = 0 ∧ i / 512 / 2 * 256 + i % 512 / 2 < n := by unfold lim; rw [decide_eq_true_eq]
theorem lim_at {n x y : Nat} (hx : x < 512) : lim n (y * 512 + x) = decide (x % 2 = 0 ∧ y % 2 = 0 ∧ y / 2 * 256 + x / 2 < n) := by
  have h1 : (y * 512 + x) % 512 = x := by omega
  have h2 : (y * 512 + x) / 512 = y := by omega
  unfold lim; rw [h1, h2]
theorem lim_dark {K n i : Nat} : (tab K (lim n))[i]? = some true ↔ i < K ∧ lim n i = true := by
  by_cases h : i < K
  · rw [tab_get h]; simp [h]
  · rw [List.getElem?_eq_none (by rw [tab_len]; omega)]; simp [h]
theorem lim_light {K n i : Nat} : (tab K (lim n))[i]? = some false ↔ i < K ∧ lim n i = false := by
  by_cases h : i < K
  · rw [tab_get h]; simp [h]
  · rw [List.getElem?_eq_none (by rw [tab_len]; omega)]; simp [h]
theorem lim_apart {K n k i j : Nat} {eight : Bool} (h : Ed 512 eight (tab K (lim n)) true k i j) : False := by
  obtain ⟨_, hi, hj, hb⟩ := h
  have a := lim_iff.1 (lim_dark.1 hi).2
  have b := lim_iff.1 (lim_dark.1 hj).2
  unfold Back at hb
  rcases hb with (⟨h1, h2⟩ | ⟨h1, h2⟩) | ⟨_, h1, h3, h2⟩ | ⟨_, h1, h3, h2⟩ <;> omega
theorem lim_R {K n i j : Nat} {eight : Bool} (h : RR 512 eight (tab K (lim n)) true i j) : i = j := by
  induction h with
  | edge e => exact (lim_apart e).elim
  | refl => rfl
  | symm _ ih => exact ih.symm
  | trans _ _ i1 i2 => exact i1.trans i2
theorem lim_fst {K n i : Nat} {eight : Bool} : Fst (DD (tab K (lim n)) true) (RR 512 eight (tab K (lim n)) true) i ↔ i < K ∧ lim n i = true :=
  ⟨fun h => lim_dark.1 h.1, fun h => ⟨lim_dark.2 h, fun j hj _ hR => absurd (lim_R hR) (by omega)⟩⟩
theorem nf_filter {D : Nat → Prop} {R : Nat → Nat → Prop} (k : Nat) : nf D R k = ((List.range k).filter fun i => decide (Fst D R i)).length := by
  induction k with
  | zero => rfl
  | succ k ih =>
    rw [nf, List.range_succ, List.filter_append, List.length_append, ← ih]
    by_cases h : Fst D R k <;> simp [h]
theorem lim_nf {K n : Nat} {eight : Bool} (hK : K = 512 * 515) (hn : n ≤ 66048) : nf (DD (tab K (lim n)) true) (RR 512 eight (tab K (lim n)) true) K = n := by
  rw [nf_filter]
  have e : n = ((List.range n).map fun q => q / 256 * 1024 + q % 256 * 2).length := by simp
  conv => rhs; rw [e]
  refine same_len (List.nodup_range.sublist List.filter_sublist) (nodup_map_on List.nodup_range fun x _ y _ h => ?_) fun i => ?_
  · have h : x / 256 * 1024 + x % 256 * 2 = y / 256 * 1024 + y % 256 * 2 := h
    omega
  · rw [List.mem_filter, List.mem_range, decide_eq_true_eq, lim_fst, lim_iff, List.mem_map]
    constructor
    · rintro ⟨_, h1, h2, h3, h4⟩
      refine ⟨i / 512 / 2 * 256 + i % 512 / 2, List.mem_range.2 h4, ?_⟩
      show (i / 512 / 2 * 256 + i % 512 / 2) / 256 * 1024 + (i / 512 / 2 * 256 + i % 512 / 2) % 256 * 2 = i
      omega
    · rintro ⟨q, hq, rfl⟩
      have hq := List.mem_range.1 hq
      show q / 256 * 1024 + q % 256 * 2 < K ∧ q / 256 * 1024 + q % 256 * 2 < K ∧ (q / 256 * 1024 + q % 256 * 2) % 512 % 2 = 0 ∧ (q / 256 * 1024 + q % 256 * 2) / 512 % 2 = 0 ∧ (q / 256 * 1024 + q % 256 * 2) / 512 / 2 * 256 + (q / 256 * 1024 + q % 256 * 2) % 512 / 2 < n
      omega
theorem cnt_only {D : Nat → Prop} {R : Nat → Nat → Prop} {f : Nat} (hD : D f) (hr : R f f) (h : ∀ j, R f j → f = j) (k : Nat) : cnt D R f k = if f < k then 1 else 0 := by
  induction k with
  | zero => rfl
  | succ k ih =>
    rw [cnt, ih]
    by_cases e : f = k
    · subst e; simp [hD, hr]
    · have : ¬ (D k ∧ R f k) := fun h' => e (h k h'.2)
      rw [if_neg this]
      by_cases l : f < k
      · rw [if_pos l, if_pos (by omega)]
      · rw [if_neg l, if_neg (by omega)]
theorem lim_area {K n q : Nat} {eight : Bool} {lab : List Int} {bl : List Bl} (hL : Labelled (DD (tab K (lim n)) true) (RR 512 eight (tab K (lim n)) true) 512 K lab bl) (hq : q < bl.length) : bl[q].area = 1 := by
  have hq' := hq
  rw [hL.num] at hq'
  obtain ⟨f, f1, f2, f3⟩ := nf_surj hq'
  obtain ⟨b, b1, b2⟩ := hL.blob f f1 f2
  rw [f3, List.getElem?_eq_getElem hq] at b1
  rw [Option.some.inj b1, b2.area, cnt_only f2.1 (Cl.refl f) (fun j h => lim_R h), if_pos f1]; rfl
theorem lim_row {K n y : Nat} (hK : K = 512 * 515) (hy : y % 2 = 1) (hyb : y < 515) (x : Nat) (hx : x < 512) : RR 512 false (tab K (lim n)) false (y * 512 + x) (y * 512) := by
  have off : ∀ z, z < 512 → (tab K (lim n))[y * 512 + z]? = some false := fun z hz => lim_light.2 ⟨by omega, by rw [lim_at hz]; simp [hy]⟩
  induction x with
  | zero => rw [Nat.add_zero]; exact Cl.refl _
  | succ x ih =>
    have hm : 0 < (y * 512 + (x + 1)) % 512 := by omega
    have hlt : y * 512 + (x + 1) < K := by omega
    exact Cl.trans (.edge ⟨by rw [tab_len]; exact hlt, off (x + 1) hx, off x (by omega), .inl (.inl ⟨hm, by omega⟩)⟩) (ih (by omega))
theorem lim_open {K n i : Nat} (hK : K = 512 * 515) (h : (tab K (lim n))[i]? = some false) : ∃ j, (tab K (lim n))[j]? = some false ∧ RR 512 false (tab K (lim n)) false i j ∧ Bord 512 515 j := by
  have hi := (lim_light.1 h).1
  by_cases h0 : i / 512 = 0
  · exact ⟨i, h, Cl.refl _, .inr (.inr (.inl h0))⟩
  have key : ∀ y x, y % 2 = 1 → y < 515 → x < 512 → ∃ j, (tab K (lim n))[j]? = some false ∧ RR 512 false (tab K (lim n)) false (y * 512 + x) j ∧ Bord 512 515 j := fun y x hy hyb hx =>
    ⟨y * 512, lim_light.2 ⟨by omega, by have := lim_at (n := n) (x := 0) (y := y) (by omega); rw [Nat.add_zero] at this; rw [this]; simp [hy]⟩, lim_row hK hy hyb x hx, .inl (by omega)⟩
  by_cases h1 : i / 512 % 2 = 1
  · have e : i = i / 512 * 512 + i % 512 := by omega
    have := key (i / 512) (i % 512) h1 (by omega) (by omega)
    rwa [← e] at this
  · obtain ⟨j, j1, j2, j3⟩ := key (i / 512 - 1) (i % 512) (by omega) (by omega) (by omega)
    have hx : i % 512 < 512 := by omega
    refine ⟨j, j1, Cl.trans (.edge ⟨by rw [tab_len]; omega, h, lim_light.2 ⟨by omega, ?_⟩, .inl (.inr ⟨by omega, by omega⟩)⟩) j2, j3⟩
    rw [lim_at hx]
    have : (i / 512 - 1) % 2 = 1 := by omega
    simp [this]
theorem lim_nh {K n : Nat} (hK : K = 512 * 515) : nh 512 515 (tab K (lim n)) = 0 := by
  unfold nh
  rw [List.length_eq_zero_iff]
  refine List.eq_nil_iff_forall_not_mem.2 fun i hi => ?_
  obtain ⟨h1, h2⟩ := (hFst_mem.1 hi).2
  obtain ⟨j, j1, j2, j3⟩ := lim_open hK h1
  exact h2 j j1 j2 j3
theorem lim_ok {K n : Nat} (hK : K = 512 * 515) : okMat 512 515 (tab K (lim n)).length := by rw [tab_len, hK]; unfold okMat okSize; omega
theorem lim_label {K n : Nat} {eight : Bool} {lab : List Int} {bl : List Bl} {e : Int} (hK : K = 512 * 515) (hn : n ≤ 66048) {dk : List Bool} (hd : dk = tab K (lim n))
    (h : (¬ okMat 512 515 dk.length ∧ e = 1 ∧ lab = [] ∧ bl = []) ∨ (okMat 512 515 dk.length ∧ 65536 < nf (DD dk true) (RR (512 : Int).toNat eight dk true) dk.length ∧ e = 4 ∧ lab = [] ∧ bl = []) ∨ (okMat 512 515 dk.length ∧ nf (DD dk true) (RR (512 : Int).toNat eight dk true) dk.length ≤ 65536 ∧ e = 0 ∧ Labelled (DD dk true) (RR (512 : Int).toNat eight dk true) (512 : Int).toNat dk.length lab bl)) :
    (65536 < n → e = 4 ∧ lab = [] ∧ bl = []) ∧ (n ≤ 65536 → e = 0 ∧ bl.length = n ∧ ∀ q (hq : q < bl.length), bl[q].area = 1) := by
  subst hd
  rw [show (512 : Int).toNat = 512 from rfl, tab_len, lim_nf hK hn] at h
  rcases h with ⟨h0, _⟩ | ⟨_, h1, h2⟩ | ⟨_, h1, h2, hL⟩
  · exact (h0 (by have := lim_ok (n := n) hK; rwa [tab_len] at this)).elim
  · exact ⟨fun _ => h2, fun h => absurd h1 (by omega)⟩
  · exact ⟨fun h => absurd h1 (by omega), fun _ => ⟨h2, by rw [hL.num, lim_nf hK hn], fun q hq => lim_area hL hq⟩⟩
theorem lim_euler {K n : Nat} {k e : Int} (hK : K = 512 * 515) (hn : n ≤ 66048) {dk : List Bool} (hd : dk = tab K (lim n)) (h : EulSp 512 515 dk k e) : (65536 < n → k = 0 ∧ e = 4) ∧ (n ≤ 65536 → k = (n : Int) ∧ e = 0) := by
  subst hd
  unfold EulSp at h
  rw [show (512 : Int).toNat = 512 from rfl, show (515 : Int).toNat = 515 from rfl, tab_len, lim_nf hK hn, lim_nh hK] at h
  rcases h with ⟨h0, _⟩ | ⟨_, h1, h2, h3⟩ | ⟨_, h1, h2, h3⟩
  · exact (h0 (by have := lim_ok (n := n) hK; rwa [tab_len] at this)).elim
  · exact ⟨fun _ => ⟨h2, h3⟩, fun h => absurd h1 (by omega)⟩
  · exact ⟨fun h => absurd h1 (by omega), fun _ => ⟨by omega, h2⟩⟩
theorem lim_desp {K n : Nat} {W1 H1 : Int} {l : List Bool} {e : Int} (hK : K = 512 * 515) (hn : n ≤ 66048) {dk : List Bool} (hd : dk = tab K (lim n)) (h : DespSp 512 515 dk 2 W1 H1 l e) : (65536 < n → l = [] ∧ e = 4) ∧ (n ≤ 65536 → W1 = 512 ∧ e = 0) := by
  subst hd
  unfold DespSp at h
  rw [show (512 : Int).toNat = 512 from rfl, tab_len, lim_nf hK hn] at h
  rcases h with ⟨h0, _⟩ | ⟨_, h1, _⟩ | ⟨_, _, h1, _, _, h2, h3⟩ | ⟨_, _, h1, h2, _, h3, _⟩
  · exact (h0 (by have := lim_ok (n := n) hK; rwa [tab_len] at this)).elim
  · exact absurd h1 (by decide)
  · exact ⟨fun _ => ⟨h2, h3⟩, fun h => absurd h1 (by omega)⟩
  · exact ⟨fun h => absurd h1 (by omega), fun _ => ⟨h2, h3⟩⟩
end Go.Proofs.Ytnnmebpahickhaa
