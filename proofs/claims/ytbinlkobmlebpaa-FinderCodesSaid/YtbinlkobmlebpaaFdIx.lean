/- finder, plain: the finders of a bitmap are seen, and nothing takes their sightings up. -/
import Derived.Test.YtbinlkobmlebpaaFdHx
set_option linter.unusedSimpArgs false
set_option linter.unusedVariables false
namespace Go.Proofs.Ytbinlkobmlebpaa
open Go.RowKit Sym
namespace Fi
abbrev px (dk : List Bool) (W r c : Nat) : Bool := dk.getD (r * W + c) false
theorem lc_row (dk : List Bool) (W r : Nat) : lc dk (r * W) 1 = fun k => px dk W r k := funext fun k => by show dk.getD (r * W + k * 1) false = _; rw [Nat.mul_one]
theorem lc_col (dk : List Bool) (W c : Nat) : lc dk c W = fun k => px dk W k c := funext fun k => by show dk.getD (c + k * W) false = _; rw [Nat.add_comm]
def XF (left : Bool) (c : Nat → Bool) (n f s J : Nat) : Prop := if left then LF c n f s J else RF c n f s J
structure FP (dk : List Bool) (W fx fy s : Nat) (xl yl : Bool) : Prop where
 hs : 1 ≤ s
 inx : fx + 7 * s < W
 iny : fy + 7 * s < W
 row : ∀ r J, fy ≤ r → r < fy + 7 * s → J < 7 → md s (r - fy) J → XF xl (fun k => px dk W r k) W fx s J
 col : ∀ x J, fx ≤ x → x < fx + 7 * s → J < 7 → md s (x - fx) J → XF yl (fun k => px dk W k x) W fy s J
 mar : ∀ r, r < W → (xl = true → ∀ k, k < fx → px dk W r k = false) ∧ (xl = false → ∀ k, fx + 7 * s ≤ k → k < W → px dk W r k = false)
theorem XF.own {left : Bool} {c : Nat → Bool} {n f s J e0 e1 e2 e3 e4 e5 : Nat} (h : XF left c n f s J) (p : PR c n e0 e1 e2 e3 e4 e5) (h1 : 3 * (e0 + e5) ≤ 3 * (2 * f + 7 * s) + (e5 - e0)) (h2 : 3 * (2 * f + 7 * s) ≤ 3 * (e0 + e5) + (e5 - e0)) : e0 = f ∧ e5 = f + 7 * s ∧ (J = 2 ∨ J = 3 ∨ J = 4) := by
 unfold XF at h
 split at h
 · exact h.own p h1
 · exact h.own p h2
theorem PR.lt {c : Nat → Bool} {n e0 e1 e2 e3 e4 e5 : Nat} (p : PR c n e0 e1 e2 e3 e4 e5) : e0 < e5 := by have := p.l1; have := p.l2; have := p.l3; have := p.l4; have := p.l5; omega
theorem vis_inv {W H : Nat} {dk : List Bool} {sh : List Int} {kd : Bool} {y run : Nat} {m : Mk} (h : vis W H dk sh kd y run = some (some m)) : ∃ q : Int × Int, patv (eds (lc dk (y * W) 1) W) (lc dk (y * W) 1 0) kd sh run = some q ∧ jud q.1 q.2 y (eds (lc dk (q.1 + q.2 / 2).toNat W) H) (lc dk (q.1 + q.2 / 2).toNat W 0) kd sh = some m := by
  unfold vis at h
  split at h
  · cases h
  · rename_i q hq
    exact ⟨q, hq, Option.some.inj h⟩
theorem jud_inv {b T y : Int} {es : List Int} {d0 kd : Bool} {sh : List Int} {m : Mk} (h : jud b T y es d0 kd sh = some m) : ∃ q : Int × Int, patv es d0 kd sh (rn es y - (sh.length : Int) / 2) = some q ∧ ¬ T < 4 * max (T - q.2) (q.2 - T) ∧ m = ⟨14 * b + 7 * T, 14 * q.1 + 7 * q.2, T + q.2, 1⟩ := by
  unfold jud at h
  split at h
  · cases h
  · rename_i q hq
    split at h
    · cases h
    · rename_i hz
      exact ⟨q, hq, hz, (Option.some.inj h).symm⟩
theorem cnt_le {es : List Int} (hs : es.Pairwise (· < ·)) {x : Int} {m : Nat} (hm : m < es.length) (hx : x ≤ es[m]) : es.countP (fun y => decide (y < x)) ≤ m := by
 rw [← List.take_append_drop m es, List.countP_append]
 have e1 := List.countP_le_length (p := fun y => decide (y < x)) (l := es.take m)
 rw [List.length_take] at e1
 have e2 : (es.drop m).countP (fun y => decide (y < x)) = 0 := by
  rw [List.countP_eq_zero]
  intro y hy
  obtain ⟨j, hj, rfl⟩ := List.getElem_of_mem hy
  rw [List.length_drop] at hj
  rw [List.getElem_drop]
  have := srt_ge hs hm hx (m + j) (by omega) (by omega)
  simp; omega
 omega
theorem cnt_ge {es : List Int} (hs : es.Pairwise (· < ·)) {x : Int} {m : Nat} (hm : m < es.length) (hx : es[m] < x) : m + 1 ≤ es.countP (fun y => decide (y < x)) := by
  rw [← List.take_append_drop (m + 1) es, List.countP_append]
  have e1 : (es.take (m + 1)).countP (fun y => decide (y < x)) = m + 1 := by
    rw [List.countP_eq_length.2, List.length_take]
    · omega
    · intro y hy
      obtain ⟨j, hj, rfl⟩ := List.getElem_of_mem hy
      rw [List.length_take] at hj
      rw [List.getElem_take]
      exact decide_eq_true (srt_lt hs hm hx j (by omega) (by omega))
  omega
theorem rn_in {es : List Int} (hs : es.Pairwise (· < ·)) {y : Int} {i : Nat} (hi : i + 1 < es.length) (h : rn es y = i) : es[i] ≤ y ∧ y < es[i + 1] := by
  unfold rn at h
  have hc : es.countP (fun z => decide (z < y + 1)) = i + 1 := by omega
  constructor
  · refine Decidable.byContradiction fun q => ?_
    have := cnt_le hs (by omega) (show y + 1 ≤ es[i] by omega)
    omega
  · refine Decidable.byContradiction fun q => ?_
    have := cnt_ge hs hi (show es[i + 1] < y + 1 by omega)
    omega
theorem FP.own {dk : List Bool} {W fx fy s : Nat} {xl yl : Bool} (h : FP dk W fx fy s xl yl) {y run : Nat} {m : Mk} (hy : y < W) (hv : vis W W dk (shq true) true y run = some (some m)) (hn : nearM m (14 * fx + 49 * s) (14 * fy + 49 * s)) : m.x = 14 * fx + 49 * s ∧ m.y = 14 * fy + 49 * s ∧ m.s = 14 * s := by
 obtain ⟨⟨a, T⟩, hq, hj⟩ := vis_inv hv
 obtain ⟨⟨b, S⟩, hq2, hz, rfl⟩ := jud_inv hj
 have hpin := patv_in hq2
 rw [lc_row] at hq
 rw [lc_col] at hq2 hpin
 obtain ⟨e0, e1, e2, e3, e4, e5, ha, haT, pe⟩ := pat_runs hq
 obtain ⟨d0, d1, d2, d3, d4, d5, hb, hbS, pd⟩ := pat_runs hq2
 simp only at ha haT hb hbS hz hpin
 unfold nearM at hn
 simp only at hn
 have le := pe.lt
 have ld := pd.lt
 have le6 := pe.l6
 have hs := h.hs
 obtain ⟨x0, hx0⟩ : ∃ x0 : Nat, (a + T / 2).toNat = x0 := ⟨_, rfl⟩
 rw [hx0] at hq2 pd hpin
 have hm1 : xl = true → fx ≤ e0 := fun hx => Decidable.byContradiction fun q => by
  have h1 := (h.mar y hy).1 hx e0 (by omega)
  have h2 := pe.r1 e0 (Nat.le_refl _) pe.l1
  have h3 := h1.symm.trans h2; cases h3
 have hm2 : xl = false → e5 ≤ fx + 7 * s := fun hx => Decidable.byContradiction fun q => by
  have h1 := (h.mar y hy).2 hx (e5 - 1) (by omega) (by omega)
  have l5 := pe.l5
  have h2 := pe.r5 (e5 - 1) (by omega) (by omega)
  have h3 := h1.symm.trans h2; cases h3
 have hxin : fx ≤ x0 ∧ x0 < fx + 7 * s := by
  cases xl with
  | true => have := hm1 rfl; omega
  | false => have := hm2 rfl; omega
 obtain ⟨J, hJ, hmd⟩ := md_all (s := s) (k := x0 - fx) (by omega)
 obtain ⟨c1, c2, _⟩ := (h.col x0 J hxin.1 hxin.2 hJ hmd).own pd (by omega) (by omega)
 obtain ⟨r, r1, r2, _, r4, _⟩ := hpin
 have hl5 : (shq true).length = 5 := rfl
 rw [hl5] at r1 r2 r4
 have hsrt := eds_srt (fun k => px dk W k x0) W
 have hrn : rn (eds (fun k => px dk W k x0) W) (y : Int) = ((r + 2 : Nat) : Int) := by
  have : ((5 : Nat) : Int) / 2 = 2 := rfl
  rw [this] at r1; omega
 obtain ⟨y1, y2⟩ := rn_in hsrt (i := r + 2) (by omega) hrn
 have z1 := List.pairwise_iff_getElem.1 hsrt r (r + 2) (by omega) (by omega) (by omega)
 have z2 : (eds (fun k => px dk W k x0) W)[r + 3] < (eds (fun k => px dk W k x0) W)[r + 5] := List.pairwise_iff_getElem.1 hsrt (r + 3) (r + 5) (by omega) (by omega) (by omega)
 have g1 : (eds (fun k => px dk W k x0) W).getD r 0 = (eds (fun k => px dk W k x0) W)[r] := by rw [List.getD_eq_getElem?_getD, List.getElem?_eq_getElem (by omega)]; rfl
 have g2 : (eds (fun k => px dk W k x0) W).getD (r + 5) 0 = (eds (fun k => px dk W k x0) W)[r + 5] := by rw [List.getD_eq_getElem?_getD, List.getElem?_eq_getElem (by omega)]; rfl
 have hb1 : b = (eds (fun k => px dk W k x0) W)[r] := by rw [← g1]; exact congrArg Prod.fst r4
 have hS1 : S = (eds (fun k => px dk W k x0) W)[r + 5] - (eds (fun k => px dk W k x0) W)[r] := by rw [← g1, ← g2]; exact congrArg Prod.snd r4
 have hyin : fy ≤ y ∧ y < fy + 7 * s := by
  have y2' : (y : Int) < (eds (fun k => px dk W k x0) W)[r + 3] := y2
  omega
 obtain ⟨J', hJ', hmd'⟩ := md_all (s := s) (k := y - fy) (by omega)
 obtain ⟨k1, k2, _⟩ := (h.row y J' hyin.1 hyin.2 hJ' hmd').own pe (by omega) (by omega)
 simp only
 omega
theorem XF.at {left : Bool} {c : Nat → Bool} {n f s J : Nat} (h : XF left c n f s J) (hJ : J = 2 ∨ J = 3 ∨ J = 4) (hn : f + 7 * s < n) :
    ∃ run : Nat, run < (eds c n).length ∧ patv (eds c n) (c 0) true (shq true) (run : Int) = some ((f : Int), ((7 * s : Nat) : Int)) ∧ run + 5 < (eds c n).length ∧ (eds c n).getD (run + 2) 0 = ((f + 2 * s : Nat) : Int) ∧ (eds c n).getD (run + 3) 0 = ((f + 5 * s : Nat) : Int) := by
  have key : 1 ≤ s ∧ (f = 0 ∨ c (f - 1) = false) ∧ c (f + 7 * s) = false ∧ ∀ k, f ≤ k → k < f + 7 * s → c k = decide (k < f + s ∨ (f + 2 * s ≤ k ∧ k < f + 5 * s) ∨ f + 6 * s ≤ k) := by
    unfold XF at h
    split at h
    · refine ⟨h.hs, ?_, h.sep, fun k a b => h.mid hJ a b⟩
      by_cases z : f = 0
      · exact .inl z
      · exact .inr (h.pre _ (by omega))
    · refine ⟨h.hs, .inr h.sep, h.post _ (Nat.le_refl _) hn, fun k a b => ?_⟩
      have hr := h.rev.mid hJ (k := n - 1 - k) (by omega) (by omega)
      unfold rv at hr
      rw [show n - 1 - (n - 1 - k) = k by omega] at hr
      rw [hr]
      exact decide_eq_decide.2 (by omega)
  obtain ⟨hs, h0, h6, hd⟩ := key
  exact patv_at hs hn h0 (fun k a b => (hd k a (by omega)).trans (decide_eq_true (by omega))) (fun k a b => (hd k (by omega) (by omega)).trans (decide_eq_false (by omega))) (fun k a b => (hd k (by omega) (by omega)).trans (decide_eq_true (by omega)))
    (fun k a b => (hd k (by omega) (by omega)).trans (decide_eq_false (by omega))) (fun k a b => (hd k (by omega) b).trans (decide_eq_true (by omega))) h6
theorem FP.seen {dk : List Bool} {W fx fy s : Nat} {xl yl : Bool} (h : FP dk W fx fy s xl yl) : ∃ run : Nat, run < runs W dk (fy + 3 * s) ∧ vis W W dk (shq true) true (fy + 3 * s) run = some (some ⟨14 * fx + 49 * s, 14 * fy + 49 * s, 14 * s, 1⟩) := by
  have hs := h.hs
  obtain ⟨run, r1, r2, _, _, _⟩ := (h.row (fy + 3 * s) 3 (by omega) (by omega) (by decide) (by unfold md; omega)).at (.inr (.inl rfl)) h.inx
  obtain ⟨cr, c1, c2, c3, c4, c5⟩ := (h.col (fx + 7 * s / 2) 3 (by omega) (by omega) (by decide) (by unfold md; omega)).at (.inr (.inl rfl)) h.iny
  refine ⟨run, ?_, ?_⟩
  · unfold runs; rw [lc_row]; exact r1
  · rw [vis_s (q := ((fx : Int), ((7 * s : Nat) : Int))) (by rw [lc_row]; exact r2) (x := fx + 7 * s / 2) (by show (fx : Int) + ((7 * s : Nat) : Int) / 2 = _; omega), lc_col]
    have g2 : (eds (fun k => px dk W k (fx + 7 * s / 2)) W)[cr + 2] = ((fy + 2 * s : Nat) : Int) := by rw [← c4, List.getD_eq_getElem?_getD, List.getElem?_eq_getElem (by omega)]; rfl
    have g3 : (eds (fun k => px dk W k (fx + 7 * s / 2)) W)[cr + 2 + 1] = ((fy + 5 * s : Nat) : Int) := by rw [← c5, List.getD_eq_getElem?_getD, List.getElem?_eq_getElem (by omega)]; rfl
    have hrn := rn_eq (y := ((fy + 3 * s : Nat) : Int)) (eds_srt (fun k => px dk W k (fx + 7 * s / 2)) W) (j := cr + 2) (by omega) (by rw [g2]; omega) (by rw [g3]; omega)
    have hp : patv (eds (fun k => px dk W k (fx + 7 * s / 2)) W) (px dk W 0 (fx + 7 * s / 2)) true (shq true) (rn (eds (fun k => px dk W k (fx + 7 * s / 2)) W) ((fy + 3 * s : Nat) : Int) - ((shq true).length : Int) / 2) = some ((fy : Int), ((7 * s : Nat) : Int)) := by
      rw [hrn, show ((cr + 2 : Nat) : Int) - ((shq true).length : Int) / 2 = (cr : Int) by rw [show ((shq true).length : Int) / 2 = 2 from rfl]; omega]; exact c2
    rw [jud_t hp (by show ¬ (_ < 4 * max (((7 * s : Nat) : Int) - ((7 * s : Nat) : Int)) (((7 * s : Nat) : Int) - ((7 * s : Nat) : Int))); omega)]
    congr 3 <;> (try simp only) <;> omega
end Fi
end Go.Proofs.Ytbinlkobmlebpaa
