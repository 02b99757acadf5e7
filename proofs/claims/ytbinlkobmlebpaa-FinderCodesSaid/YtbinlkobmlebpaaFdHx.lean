/- finder, plain: a line that crosses a finder: what is found there, and that nothing else is. -/
import Derived.Test.YtbinlkobmlebpaaFdCx
set_option linter.unusedSimpArgs false
set_option linter.unusedVariables false
namespace Go.Proofs.Ytbinlkobmlebpaa
open Go.RowKit Sym
namespace Fi
theorem edg_pre {c : Nat → Bool} {m : Nat} : ∀ d, ∃ R, edg c (m + d) = edg c m ++ R ∧ ∀ x ∈ R, (m : Int) ≤ x
  | 0 => ⟨[], by simp, fun x h => by cases h⟩
  | d + 1 => by
    obtain ⟨R, h1, h2⟩ := edg_pre (c := c) (m := m) d
    rw [← Nat.add_assoc]
    by_cases e : m + d = 0 ∨ c (m + d) ≠ c (m + d - 1)
    · refine ⟨R ++ [((m + d : Nat) : Int)], by rw [edg_t e, h1, List.append_assoc], fun x hx => ?_⟩
      rcases List.mem_append.1 hx with hx | hx
      · exact h2 x hx
      · rw [List.mem_singleton] at hx; omega
    · exact ⟨R, by rw [edg_f e, h1], h2⟩
theorem eds_val {c : Nat → Bool} {n i k : Nat} {a b : Int} (ha : (eds c n)[i]? = some a) (hb : (eds c n)[i + 1]? = some b) (h1 : a ≤ k) (h2 : (k : Int) < b) : c k = xr (c 0) i := by
 have hbn := eds_mem _ (List.mem_of_getElem? hb)
 have hkn : k < n := by omega
 obtain ⟨R, h3, h4⟩ := edg_pre (c := c) (m := k + 1) (n - (k + 1))
 rw [show k + 1 + (n - (k + 1)) = n by omega] at h3
 obtain ⟨h5, h6⟩ := (edg_col c (k + 1)).1 (by omega)
 rw [Nat.add_sub_cancel] at h6
 have hes : eds c n = edg c (k + 1) ++ (R ++ [(n : Int)]) := by unfold eds; rw [h3, List.append_assoc]
 rw [hes] at ha hb
 have l1 : i < (edg c (k + 1)).length := by
  refine Decidable.byContradiction fun q => ?_
  rw [List.getElem?_append_right (by omega)] at ha
  have hm := List.mem_of_getElem? ha
  rcases List.mem_append.1 hm with hm | hm
  · have := h4 a hm; omega
  · rw [List.mem_singleton] at hm; omega
 have l2 : ¬ i + 1 < (edg c (k + 1)).length := fun q => by
  rw [List.getElem?_append_left q] at hb
  have := edg_mem c (k + 1) b (List.mem_of_getElem? hb); omega
 rw [h6, show (edg c (k + 1)).length - 1 = i by omega]
theorem getD_app (L X : List Int) (i : Nat) : (L ++ X).getD (L.length + i) 0 = X.getD i 0 := by
 rw [List.getD_eq_getElem?_getD, List.getD_eq_getElem?_getD, List.getElem?_append_right (by omega), Nat.add_sub_cancel_left]
theorem patv_at {c : Nat → Bool} {n f s : Nat} (hs : 1 ≤ s) (hn : f + 7 * s < n) (h0 : f = 0 ∨ c (f - 1) = false)
    (d1 : ∀ k, f ≤ k → k < f + s → c k = true) (d2 : ∀ k, f + s ≤ k → k < f + 2 * s → c k = false) (d3 : ∀ k, f + 2 * s ≤ k → k < f + 5 * s → c k = true)
    (d4 : ∀ k, f + 5 * s ≤ k → k < f + 6 * s → c k = false) (d5 : ∀ k, f + 6 * s ≤ k → k < f + 7 * s → c k = true) (d6 : c (f + 7 * s) = false) :
    ∃ run : Nat, run < (eds c n).length ∧ patv (eds c n) (c 0) true (shq true) (run : Int) = some ((f : Int), ((7 * s : Nat) : Int)) ∧ run + 5 < (eds c n).length ∧ (eds c n).getD (run + 2) 0 = ((f + 2 * s : Nat) : Int) ∧ (eds c n).getD (run + 3) 0 = ((f + 5 * s : Nat) : Int) := by
  obtain ⟨L, hL⟩ : ∃ L, edg c f = L := ⟨_, rfl⟩
  have e2 := edg_run hL (by
    rcases h0 with h | h
    · exact .inl h
    · exact .inr (by rw [h, d1 f (Nat.le_refl _) (by omega)]; decide)) (b := f + s) (by omega) (fun k a b => (d1 k (by omega) b).trans (d1 f (Nat.le_refl _) (by omega)).symm)
  have e3 := edg_run e2 (.inr (by rw [d2 (f + s) (Nat.le_refl _) (by omega), d1 (f + s - 1) (by omega) (by omega)]; decide)) (b := f + 2 * s) (by omega) (fun k a b => (d2 k (by omega) b).trans (d2 (f + s) (Nat.le_refl _) (by omega)).symm)
  have e4 := edg_run e3 (.inr (by rw [d3 (f + 2 * s) (Nat.le_refl _) (by omega), d2 (f + 2 * s - 1) (by omega) (by omega)]; decide)) (b := f + 5 * s) (by omega) (fun k a b => (d3 k (by omega) b).trans (d3 (f + 2 * s) (Nat.le_refl _) (by omega)).symm)
  have e5 := edg_run e4 (.inr (by rw [d4 (f + 5 * s) (Nat.le_refl _) (by omega), d3 (f + 5 * s - 1) (by omega) (by omega)]; decide)) (b := f + 6 * s) (by omega) (fun k a b => (d4 k (by omega) b).trans (d4 (f + 5 * s) (Nat.le_refl _) (by omega)).symm)
  have e6 := edg_run e5 (.inr (by rw [d5 (f + 6 * s) (Nat.le_refl _) (by omega), d4 (f + 6 * s - 1) (by omega) (by omega)]; decide)) (b := f + 7 * s) (by omega) (fun k a b => (d5 k (by omega) b).trans (d5 (f + 6 * s) (Nat.le_refl _) (by omega)).symm)
  have e7 : edg c (f + 7 * s + 1) = edg c (f + 7 * s) ++ [((f + 7 * s : Nat) : Int)] := edg_t (.inr (by rw [d6, d5 (f + 7 * s - 1) (by omega) (by omega)]; decide))
  obtain ⟨R, h3, _⟩ := edg_pre (c := c) (m := f + 7 * s + 1) (n - (f + 7 * s + 1))
  rw [show f + 7 * s + 1 + (n - (f + 7 * s + 1)) = n by omega, e7, e6] at h3
  have hes : eds c n = L ++ ((f : Int) :: ((f + s : Nat) : Int) :: ((f + 2 * s : Nat) : Int) :: ((f + 5 * s : Nat) : Int) :: ((f + 6 * s : Nat) : Int) :: ((f + 7 * s : Nat) : Int) :: (R ++ [(n : Int)])) := by
    unfold eds; rw [h3]; simp only [List.append_assoc, List.cons_append, List.nil_append]
  have hlen : (eds c n).length = L.length + (6 + (R.length + 1)) := by rw [hes]; simp; omega
  have hg : ∀ i, (eds c n).getD (L.length + i) 0 = ((f : Int) :: ((f + s : Nat) : Int) :: ((f + 2 * s : Nat) : Int) :: ((f + 5 * s : Nat) : Int) :: ((f + 6 * s : Nat) : Int) :: ((f + 7 * s : Nat) : Int) :: (R ++ [(n : Int)])).getD i 0 := fun i => by rw [hes, getD_app]
  have g0 : (eds c n).getD L.length 0 = (f : Int) := hg 0
  have g1 : (eds c n).getD (L.length + 1) 0 = ((f + s : Nat) : Int) := hg 1
  have g2 : (eds c n).getD (L.length + 2) 0 = ((f + 2 * s : Nat) : Int) := hg 2
  have g3 : (eds c n).getD (L.length + 3) 0 = ((f + 5 * s : Nat) : Int) := hg 3
  have g4 : (eds c n).getD (L.length + 4) 0 = ((f + 6 * s : Nat) : Int) := hg 4
  have g5 : (eds c n).getD (L.length + 5) 0 = ((f + 7 * s : Nat) : Int) := hg 5
  obtain ⟨e, he1, he2, he3⟩ := eds_col (c := c) (n := n) (i := L.length) (by omega)
  have hef : e = f := by
    rw [List.getD_eq_getElem?_getD, he1] at g0
    have : (e : Int) = f := g0
    omega
  subst hef
  rw [d1 e (Nat.le_refl _) (by omega)] at he3
  have hpar : ((L.length : Int) % 2 = 0 ↔ c 0 = true) := by
    unfold xr at he3
    rcases Nat.mod_two_eq_zero_or_one L.length with q | q
    · rw [if_pos q] at he3; exact ⟨fun _ => he3.symm, fun _ => by omega⟩
    · rw [if_neg (by omega)] at he3; exact ⟨fun z => by omega, fun z => by rw [z] at he3; cases he3⟩
  refine ⟨L.length, by omega, ?_, by omega, g2, g3⟩
  have hl5 : (shq true).length = 5 := rfl
  rw [patv_ok (r := L.length) (fun h => by
    rcases h with h | h | h
    · omega
    · rw [hl5, hlen] at h; omega
    · exact h hpar) (fun i hi => ?_), hl5, g0, g5]
  · congr 2; omega
  · rw [hl5, g0, g5]
    have hi' : i = 0 ∨ i = 1 ∨ i = 2 ∨ i = 3 ∨ i = 4 := by have : i < 5 := hi; omega
    have s0 : (shq true).getD 0 0 = 1 := rfl
    have s1 : (shq true).getD 1 0 = 1 := rfl
    have s2 : (shq true).getD 2 0 = 3 := rfl
    have s3 : (shq true).getD 3 0 = 1 := rfl
    have s4 : (shq true).getD 4 0 = 1 := rfl
    unfold fit1
    rcases hi' with rfl | rfl | rfl | rfl | rfl
    · simp only [Nat.add_zero]; rw [g0, g1, s0]; omega
    · rw [Nat.add_assoc, g1, g2, s1]; omega
    · rw [Nat.add_assoc, g2, g3, s2]; omega
    · rw [Nat.add_assoc, g3, g4, s3]; omega
    · rw [Nat.add_assoc, g4, g5, s4]; omega
structure PR (c : Nat → Bool) (n e0 e1 e2 e3 e4 e5 : Nat) : Prop where
 l1 : e0 < e1
 l2 : e1 < e2
 l3 : e2 < e3
 l4 : e3 < e4
 l5 : e4 < e5
 l6 : e5 ≤ n
 r1 : ∀ k, e0 ≤ k → k < e1 → c k = true
 r2 : ∀ k, e1 ≤ k → k < e2 → c k = false
 r3 : ∀ k, e2 ≤ k → k < e3 → c k = true
 r4 : ∀ k, e3 ≤ k → k < e4 → c k = false
 r5 : ∀ k, e4 ≤ k → k < e5 → c k = true
 b0 : e0 = 0 ∨ c (e0 - 1) = false
 b5 : e5 = n ∨ c e5 = false
 f1 : 14 * (e1 - e0) ≤ 3 * (e5 - e0)
 f2 : 14 * (e2 - e1) ≤ 3 * (e5 - e0)
 f4 : 14 * (e4 - e3) ≤ 3 * (e5 - e0)
 f5 : 14 * (e5 - e4) ≤ 3 * (e5 - e0)
theorem pat_runs {c : Nat → Bool} {n : Nat} {run : Int} {q : Int × Int} (h : patv (eds c n) (c 0) true (shq true) run = some q) : ∃ e0 e1 e2 e3 e4 e5 : Nat, q.1 = e0 ∧ q.1 + q.2 = e5 ∧ PR c n e0 e1 e2 e3 e4 e5 := by
  obtain ⟨r, h1, h2, h3, rfl, h5⟩ := patv_in h
  have hl5 : (shq true).length = 5 := rfl
  rw [hl5] at h2 h5
  have hsrt := eds_srt c n
  have hex : ∀ i, i < (eds c n).length → ∃ e : Nat, (eds c n)[i]? = some (e : Int) ∧ (eds c n).getD i 0 = (e : Int) ∧ e ≤ n := fun i hi => by
    have hm := eds_mem _ (List.getElem_mem hi)
    refine ⟨(eds c n)[i].toNat, ?_, ?_, by omega⟩
    · rw [List.getElem?_eq_getElem hi]; congr 1; omega
    · rw [List.getD_eq_getElem?_getD, List.getElem?_eq_getElem hi, Option.getD_some]; omega
  have hlt : ∀ i (a b : Nat), (eds c n)[i]? = some (a : Int) → (eds c n)[i + 1]? = some (b : Int) → a < b := fun i a b ha hb => by
    obtain ⟨x1, x2⟩ := List.getElem?_eq_some_iff.1 ha
    obtain ⟨y1, y2⟩ := List.getElem?_eq_some_iff.1 hb
    have := List.pairwise_iff_getElem.1 hsrt i (i + 1) x1 y1 (by omega)
    omega
  obtain ⟨e0, a0, g0, _⟩ := hex r (by omega)
  obtain ⟨e1, a1, g1, _⟩ := hex (r + 1) (by omega)
  obtain ⟨e2, a2, g2, _⟩ := hex (r + 2) (by omega)
  obtain ⟨e3, a3, g3, _⟩ := hex (r + 3) (by omega)
  obtain ⟨e4, a4, g4, _⟩ := hex (r + 4) (by omega)
  obtain ⟨e5, a5, g5, n5⟩ := hex (r + 5) (by omega)
  have hpar : xr (c 0) r = true := by
    subst h1
    unfold xr
    rcases Nat.mod_two_eq_zero_or_one r with q | q
    · rw [if_pos q]; exact h3.1 (by omega)
    · rw [if_neg (by omega)]
      cases hc : c 0 with
      | false => rfl
      | true => have := h3.2 hc; omega
  have x1 : xr (c 0) (r + 1) = false := by rw [xr_succ, hpar]; rfl
  have x2 : xr (c 0) (r + 2) = true := by rw [xr_succ, x1]; rfl
  have x3 : xr (c 0) (r + 3) = false := by rw [xr_succ, x2]; rfl
  have x4 : xr (c 0) (r + 4) = true := by rw [xr_succ, x3]; rfl
  have x5 : xr (c 0) (r + 5) = false := by rw [xr_succ, x4]; rfl
  have t0 := h5 0 (by decide); have t1 := h5 1 (by decide); have t3 := h5 3 (by decide); have t4 := h5 4 (by decide)
  unfold fit1 at t0 t1 t3 t4
  simp only [Nat.add_zero] at t0
  rw [g0, g5, g1] at t0
  rw [g0, g5, Nat.add_assoc, g1, g2] at t1
  rw [g0, g5, Nat.add_assoc, g3, g4] at t3
  rw [g0, g5, g4] at t4
  rw [show (shq true).getD 0 0 = 1 from rfl] at t0
  rw [show (shq true).getD 1 0 = 1 from rfl] at t1
  rw [show (shq true).getD 3 0 = 1 from rfl] at t3
  rw [show (shq true).getD 4 0 = 1 from rfl] at t4
  have k1 := hlt r e0 e1 a0 a1
  have k2 := hlt (r + 1) e1 e2 a1 a2
  have k3 := hlt (r + 2) e2 e3 a2 a3
  have k4 := hlt (r + 3) e3 e4 a3 a4
  have k5 := hlt (r + 4) e4 e5 a4 a5
  refine ⟨e0, e1, e2, e3, e4, e5, g0, ?_, ?_⟩
  · show (eds c n).getD r 0 + ((eds c n).getD (r + (shq true).length) 0 - (eds c n).getD r 0) = _
    rw [hl5, g5]; omega
  · refine ⟨k1, k2, k3, k4, k5, n5, fun k p q => (eds_val a0 a1 (by omega) (by omega)).trans hpar, fun k p q => (eds_val a1 a2 (by omega) (by omega)).trans x1, fun k p q => (eds_val a2 a3 (by omega) (by omega)).trans x2, fun k p q => (eds_val a3 a4 (by omega) (by omega)).trans x3, fun k p q => (eds_val a4 a5 (by omega) (by omega)).trans x4, ?_, ?_, by omega, by omega, by omega, by omega⟩
    · by_cases z : e0 = 0
      · exact .inl z
      · refine .inr ?_
        cases r with
        | zero =>
          rw [eds_zero (by omega)] at a0
          have := Option.some.inj a0; omega
        | succ r =>
          obtain ⟨d, p, _, _⟩ := hex r (by omega)
          have hd := hlt r d e0 p a0
          have := eds_val (k := e0 - 1) p a0 (by omega) (by omega)
          rw [this]
          rw [xr_succ] at hpar
          cases hx : xr (c 0) r with
          | false => rfl
          | true => rw [hx] at hpar; cases hpar
    · by_cases z : r + 5 + 1 < (eds c n).length
      · refine .inr ?_
        obtain ⟨d, p, _, _⟩ := hex (r + 5 + 1) z
        have hd := hlt (r + 5) e5 d a5 p
        exact (eds_val (k := e5) a5 p (by omega) (by omega)).trans x5
      · refine .inl ?_
        have := eds_last c n (j := r + 5) (by omega)
        rw [a5] at this
        have := Option.some.inj this; omega
structure LF (c : Nat → Bool) (n f s J : Nat) : Prop where
 hs : 1 ≤ s
 hJ : J < 7
 hn : f + 7 * s < n
 pre : ∀ k, k < f → c k = false
 fin : ∀ k, f ≤ k → k < f + 7 * s → ∀ I, I < 7 → md s (k - f) I → c k = decide (max (max ((I : Int) - 3) (3 - (I : Int))) (max ((J : Int) - 3) (3 - (J : Int))) ≠ 2)
 sep : c (f + 7 * s) = false
theorem md_all {s k : Nat} (h : k < 7 * s) : ∃ I, I < 7 ∧ md s k I := by
 by_cases z0 : k < s
 · exact ⟨0, by omega, by unfold md; omega⟩
 by_cases z1 : k < 2 * s
 · exact ⟨1, by omega, by unfold md; omega⟩
 by_cases z2 : k < 3 * s
 · exact ⟨2, by omega, by unfold md; omega⟩
 by_cases z3 : k < 4 * s
 · exact ⟨3, by omega, by unfold md; omega⟩
 by_cases z4 : k < 5 * s
 · exact ⟨4, by omega, by unfold md; omega⟩
 by_cases z5 : k < 6 * s
 · exact ⟨5, by omega, by unfold md; omega⟩
 · exact ⟨6, by omega, by unfold md; omega⟩
theorem LF.edge {c : Nat → Bool} {n f s J : Nat} (h : LF c n f s J) (hJ : J = 0 ∨ J = 6) {k : Nat} (h1 : f ≤ k) (h2 : k < f + 7 * s) : c k = true := by
 obtain ⟨I, hI, hm⟩ := md_all (s := s) (k := k - f) (by omega)
 rw [h.fin k h1 h2 I hI hm]; exact decide_eq_true (by omega)
theorem LF.ring {c : Nat → Bool} {n f s J : Nat} (h : LF c n f s J) (hJ : J = 1 ∨ J = 5) {k : Nat} (h1 : f ≤ k) (h2 : k < f + 7 * s) : c k = decide (k < f + s ∨ f + 6 * s ≤ k) := by
 obtain ⟨I, hI, hm⟩ := md_all (s := s) (k := k - f) (by omega)
 rw [h.fin k h1 h2 I hI hm]
 unfold md at hm
 have hI' : I = 0 ∨ I = 1 ∨ I = 2 ∨ I = 3 ∨ I = 4 ∨ I = 5 ∨ I = 6 := by omega
 rcases hI' with rfl | rfl | rfl | rfl | rfl | rfl | rfl <;> exact decide_eq_decide.2 (by omega)
theorem LF.mid {c : Nat → Bool} {n f s J : Nat} (h : LF c n f s J) (hJ : J = 2 ∨ J = 3 ∨ J = 4) {k : Nat} (h1 : f ≤ k) (h2 : k < f + 7 * s) : c k = decide (k < f + s ∨ (f + 2 * s ≤ k ∧ k < f + 5 * s) ∨ f + 6 * s ≤ k) := by
 obtain ⟨I, hI, hm⟩ := md_all (s := s) (k := k - f) (by omega)
 rw [h.fin k h1 h2 I hI hm]
 unfold md at hm
 have hI' : I = 0 ∨ I = 1 ∨ I = 2 ∨ I = 3 ∨ I = 4 ∨ I = 5 ∨ I = 6 := by omega
 rcases hI' with rfl | rfl | rfl | rfl | rfl | rfl | rfl <;> exact decide_eq_decide.2 (by omega)
theorem LF.own {c : Nat → Bool} {n f s J e0 e1 e2 e3 e4 e5 : Nat} (h : LF c n f s J) (p : PR c n e0 e1 e2 e3 e4 e5) (h1 : 3 * (e0 + e5) ≤ 3 * (2 * f + 7 * s) + (e5 - e0)) : e0 = f ∧ e5 = f + 7 * s ∧ (J = 2 ∨ J = 3 ∨ J = 4) := by
  obtain ⟨l1, l2, l3, l4, l5, l6, r1, r2, r3, r4, r5, b0, b5, f1, f2, f4, f5⟩ := p
  have hs := h.hs
  have hn := h.hn
  have c0 : c e0 = true := r1 e0 (Nat.le_refl _) l1
  have ge : f ≤ e0 := Decidable.byContradiction fun q => by rw [h.pre e0 (by omega)] at c0; cases c0
  have hT : 2 * (e5 - e0) ≤ 21 * s := by omega
  have he0 : 2 * e0 < 2 * f + 7 * s := by omega
  have c1 : c e1 = false := r2 e1 (Nat.le_refl _) l2
  have c2 : c e2 = true := r3 e2 (Nat.le_refl _) l3
  have hsep := h.sep
  have hJ := h.hJ
  have hJ' : (J = 0 ∨ J = 6) ∨ (J = 1 ∨ J = 5) ∨ (J = 2 ∨ J = 3 ∨ J = 4) := by omega
  rcases hJ' with hJ' | hJ' | hJ'
  · have : ¬ e1 < f + 7 * s := fun q => by rw [h.edge hJ' (by omega) q] at c1; cases c1
    have z : e0 = f := Decidable.byContradiction fun q => by
      rcases b0 with b | b
      · omega
      · rw [h.edge hJ' (by omega) (by omega)] at b; cases b
    omega
  · have k0 : e0 < f + s := by
      rw [h.ring hJ' ge (by omega), decide_eq_true_eq] at c0; omega
    have k1 : f + s ≤ e1 := Decidable.byContradiction fun q => by
      rw [h.ring hJ' (by omega) (by omega), decide_eq_false_iff_not] at c1; omega
    have k2 : e1 ≤ f + s := Decidable.byContradiction fun q => by
      have := r1 (f + s) (by omega) (by omega)
      rw [h.ring hJ' (by omega) (by omega), decide_eq_true_eq] at this; omega
    have k3 : f + 6 * s ≤ e2 := Decidable.byContradiction fun q => by
      rw [h.ring hJ' (by omega) (by omega), decide_eq_true_eq] at c2; omega
    omega
  · have k0 : e0 < f + s ∨ f + 2 * s ≤ e0 := by
      rw [h.mid hJ' ge (by omega), decide_eq_true_eq] at c0; omega
    have z : e0 = f ∨ e0 = f + 2 * s := by
      rcases b0 with b | b
      · omega
      · by_cases q : e0 = f
        · exact .inl q
        · rw [h.mid hJ' (by omega) (by omega), decide_eq_false_iff_not] at b; omega
    rcases z with rfl | rfl
    · refine ⟨rfl, ?_, hJ'⟩
      have m1 : e0 + s ≤ e1 := Decidable.byContradiction fun q => by rw [h.mid hJ' (by omega) (by omega), decide_eq_false_iff_not] at c1; omega
      have m1' : e1 ≤ e0 + s := Decidable.byContradiction fun q => by
        have := r1 (e0 + s) (by omega) (by omega)
        rw [h.mid hJ' (by omega) (by omega), decide_eq_true_eq] at this; omega
      have m2 : e0 + 2 * s ≤ e2 := Decidable.byContradiction fun q => by rw [h.mid hJ' (by omega) (by omega), decide_eq_true_eq] at c2; omega
      have m2' : e2 ≤ e0 + 2 * s := Decidable.byContradiction fun q => by
        have := r2 (e0 + 2 * s) (by omega) (by omega)
        rw [h.mid hJ' (by omega) (by omega), decide_eq_false_iff_not] at this; omega
      have c3 : c e3 = false := r4 e3 (Nat.le_refl _) l4
      have m3 : e0 + 5 * s ≤ e3 := Decidable.byContradiction fun q => by rw [h.mid hJ' (by omega) (by omega), decide_eq_false_iff_not] at c3; omega
      have m3' : e3 ≤ e0 + 5 * s := Decidable.byContradiction fun q => by
        have := r3 (e0 + 5 * s) (by omega) (by omega)
        rw [h.mid hJ' (by omega) (by omega), decide_eq_true_eq] at this; omega
      have c4 : c e4 = true := r5 e4 (Nat.le_refl _) l5
      have m4 : e0 + 6 * s ≤ e4 := Decidable.byContradiction fun q => by rw [h.mid hJ' (by omega) (by omega), decide_eq_true_eq] at c4; omega
      have m4' : e4 ≤ e0 + 6 * s := Decidable.byContradiction fun q => by
        have := r4 (e0 + 6 * s) (by omega) (by omega)
        rw [h.mid hJ' (by omega) (by omega), decide_eq_false_iff_not] at this; omega
      have m5 : e5 ≤ e0 + 7 * s := Decidable.byContradiction fun q => by
        have := r5 (e0 + 7 * s) (by omega) (by omega)
        rw [hsep] at this; cases this
      have m5' : e0 + 7 * s ≤ e5 := Decidable.byContradiction fun q => by
        rcases b5 with b | b
        · omega
        · rw [h.mid hJ' (by omega) (by omega), decide_eq_false_iff_not] at b; omega
      omega
    · have : f + 5 * s ≤ e1 := Decidable.byContradiction fun q => by rw [h.mid hJ' (by omega) (by omega), decide_eq_false_iff_not] at c1; omega
      omega
def rv (c : Nat → Bool) (n k : Nat) : Bool := c (n - 1 - k)
theorem PR.rev {c : Nat → Bool} {n e0 e1 e2 e3 e4 e5 : Nat} (p : PR c n e0 e1 e2 e3 e4 e5) : PR (rv c n) n (n - e5) (n - e4) (n - e3) (n - e2) (n - e1) (n - e0) := by
  obtain ⟨l1, l2, l3, l4, l5, l6, r1, r2, r3, r4, r5, b0, b5, f1, f2, f4, f5⟩ := p
  refine ⟨by omega, by omega, by omega, by omega, by omega, by omega, fun k a b => r5 _ (by omega) (by omega), fun k a b => r4 _ (by omega) (by omega), fun k a b => r3 _ (by omega) (by omega), fun k a b => r2 _ (by omega) (by omega), fun k a b => r1 _ (by omega) (by omega), ?_, ?_, by omega, by omega, by omega, by omega⟩
  · rcases b5 with b | b
    · exact .inl (by omega)
    · by_cases z : n - e5 = 0
      · exact .inl z
      · refine .inr ?_
        unfold rv
        rw [show n - 1 - (n - e5 - 1) = e5 by omega]; exact b
  · rcases b0 with b | b
    · exact .inl (by omega)
    · by_cases z : e0 = 0
      · exact .inl (by omega)
      · refine .inr ?_
        unfold rv
        rw [show n - 1 - (n - e0) = e0 - 1 by omega]; exact b
structure RF (c : Nat → Bool) (n f s J : Nat) : Prop where
 hs : 1 ≤ s
 hJ : J < 7
 h0 : 1 ≤ f
 hn : f + 7 * s ≤ n
 post : ∀ k, f + 7 * s ≤ k → k < n → c k = false
 fin : ∀ k, f ≤ k → k < f + 7 * s → ∀ I, I < 7 → md s (k - f) I → c k = decide (max (max ((I : Int) - 3) (3 - (I : Int))) (max ((J : Int) - 3) (3 - (J : Int))) ≠ 2)
 sep : c (f - 1) = false
theorem RF.rev {c : Nat → Bool} {n f s J : Nat} (h : RF c n f s J) : LF (rv c n) n (n - (f + 7 * s)) s J := by
  have hs := h.hs
  have h0 := h.h0
  have hn := h.hn
  refine ⟨hs, h.hJ, by omega, fun k hk => h.post _ (by omega) (by omega), fun k a b I hI hm => ?_, ?_⟩
  · have hm' : md s (n - 1 - k - f) (6 - I) := by
      unfold md at hm ⊢
      have hI' : I = 0 ∨ I = 1 ∨ I = 2 ∨ I = 3 ∨ I = 4 ∨ I = 5 ∨ I = 6 := by omega
      rcases hI' with rfl | rfl | rfl | rfl | rfl | rfl | rfl <;> omega
    show c (n - 1 - k) = _
    rw [h.fin (n - 1 - k) (by omega) (by omega) (6 - I) (by omega) hm']
    exact decide_eq_decide.2 (by omega)
  · show c (n - 1 - (n - (f + 7 * s) + 7 * s)) = false
    rw [show n - 1 - (n - (f + 7 * s) + 7 * s) = f - 1 by omega]; exact h.sep
theorem RF.own {c : Nat → Bool} {n f s J e0 e1 e2 e3 e4 e5 : Nat} (h : RF c n f s J) (p : PR c n e0 e1 e2 e3 e4 e5) (h1 : 3 * (2 * f + 7 * s) ≤ 3 * (e0 + e5) + (e5 - e0)) : e0 = f ∧ e5 = f + 7 * s ∧ (J = 2 ∨ J = 3 ∨ J = 4) := by
 have hn := h.hn
 have h6 := p.l6
 have hlt : e0 < e5 := by have := p.l1; have := p.l2; have := p.l3; have := p.l4; have := p.l5; omega
 obtain ⟨a, b, hJ⟩ := h.rev.own p.rev (by omega)
 exact ⟨by omega, by omega, hJ⟩
end Fi
end Go.Proofs.Ytbinlkobmlebpaa
