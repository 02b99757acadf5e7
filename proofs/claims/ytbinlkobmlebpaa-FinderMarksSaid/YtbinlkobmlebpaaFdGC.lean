/- finder, plain: the reference's sightings and marks. -/
import Derived.Test.YtbinlkobmlebpaaFdFC
set_option linter.unusedSimpArgs false
set_option linter.unusedVariables false
namespace Go.Proofs.Ytbinlkobmlebpaa
open Go.RowKit Sym
namespace Fi
def sgl (cs : List (Option Mk)) : List Mk := cs.filterMap id
def addAll (l : List Mk) (ss : List Mk) : List Mk := ss.foldl addM l
theorem addAll_snoc (l ss : List Mk) (m : Mk) : addAll l (ss ++ [m]) = addM (addAll l ss) m := by unfold addAll; rw [List.foldl_append]; rfl
theorem addM_len (l : List Mk) (m : Mk) : l.length ≤ (addM l m).length ∧ (addM l m).length ≤ l.length + 1 := by
 have hle := fdx_le m.x m.y l
 by_cases e : fdx m.x m.y l < l.length
 · rw [addM_t e rfl, List.length_set]; omega
 · rw [addM_f (by omega), List.length_append]; simp
theorem addAll_mono : ∀ (ss l : List Mk), l.length ≤ (addAll l ss).length
 | [], l => Nat.le_refl _
 | m :: ss, l => Nat.le_trans (addM_len l m).1 (addAll_mono ss (addM l m))
theorem addAll_len : ∀ (ss l : List Mk), (addAll l ss).length ≤ l.length + ss.length
 | [], l => Nat.le_refl _
 | m :: ss, l => by have h1 := (addM_len l m).2; have h2 := addAll_len ss (addM l m); show (addAll (addM l m) ss).length ≤ _; simp; omega
theorem fold_full : ∀ (cs : List (Option Mk)) (l : List Mk), l.length ≤ 256 → ((addAll l (sgl cs)).length ≤ 256 → fold l cs = addAll l (sgl cs)) ∧ (256 < (addAll l (sgl cs)).length → 256 < (fold l cs).length)
 | [], l, h => ⟨fun _ => rfl, fun k => k⟩
 | o :: cs, l, h => by
  have e : addAll l (sgl (o :: cs)) = addAll (stp l o) (sgl cs) := by cases o <;> rfl
  rw [e]
  unfold fold
  have hm := addAll_mono (sgl cs) (stp l o)
  by_cases c : 256 < (stp l o).length
  · rw [if_pos c]; exact ⟨fun k => by omega, fun _ => c⟩
  · rw [if_neg c]; exact fold_full cs _ (by omega)
theorem allC_len (W H : Nat) (dk : List Bool) (sh : List Int) (kd : Bool) (y k : Nat) : (allC W H dk sh kd y k).length ≤ y * (W + 1) + k := by
 have h1 : ∀ y k, (rowC W H dk sh kd y k).length ≤ k := fun y k => by
  have := List.length_filterMap_le (vis W H dk sh kd y) (List.range k); unfold rowC; simpa using this
 unfold allC
 rw [List.length_append]
 have h2 : ((List.range y).flatMap fun y => rowC W H dk sh kd y (runs W dk y)).length ≤ y * (W + 1) := by
  induction y with
  | zero => simp
  | succ y ih =>
   rw [List.range_succ, List.flatMap_append, List.length_append, Nat.succ_mul]
   have h3 := h1 y (runs W dk y)
   have h4 : runs W dk y ≤ W + 1 := eds_len _ _
   simp; simp at ih; omega
 have := h1 y k; omega
theorem sgl_len (cs : List (Option Mk)) : (sgl cs).length ≤ cs.length := List.length_filterMap_le _ _
theorem sgl_app (a b : List (Option Mk)) : sgl (a ++ b) = sgl a ++ sgl b := List.filterMap_append
theorem allC_tail {W H : Nat} {dk : List Bool} {sh : List Int} {kd : Bool} {y : Nat} : ∀ (d k : Nat), k + d = runs W dk y → runs W dk y ≤ k + sh.length → allC W H dk sh kd y k = allC W H dk sh kd y (runs W dk y)
 | 0, k, h, _ => by rw [← h]; rfl
 | d + 1, k, h, h2 => by
  rw [← allC_n (vis_n (patv_no (.inr (.inl (by unfold runs at h2; omega)))))]
  exact allC_tail d (k + 1) (by omega) (by omega)
theorem rn_eq {es : List Int} {y : Int} {j : Nat} (hs : es.Pairwise (· < ·)) (hj : j + 1 < es.length) (h1 : es[j] ≤ y) (h2 : y < es[j + 1]) : rn es y = j := by
 unfold rn
 rw [cnt_eq (a := j + 1) (by omega) (srt_lt hs (by omega) (by omega)) (fun i hi hl => by have := srt_ge hs hj (x := y + 1) (by omega) i hi hl; omega)]
 omega
theorem eds_last (c : Nat → Bool) (n : Nat) {j : Nat} (h : j + 1 = (eds c n).length) : (eds c n)[j]? = some (n : Int) := by
 unfold eds at *
 rw [List.length_append, List.length_singleton] at h
 rw [List.getElem?_append_right (by omega), show j - (edg c n).length = 0 by omega]; rfl
theorem eds_two {c : Nat → Bool} {n : Nat} (h : 1 ≤ n) : 2 ≤ (eds c n).length := by
 have := (List.getElem?_eq_some_iff.1 (edg_zero c n h)).1
 unfold eds; rw [List.length_append, List.length_singleton]; omega
theorem patR_sh (o : Option (Int × Int)) : ∃ (a t : Int) (b : Bool), patR o = .tuple #[i64 a, i64 t, .bool b] ∧ (b = true → o = some (a, t)) ∧ (b = false → o = none) := by
 cases o with
 | none => exact ⟨0, 0, false, rfl, fun h => (by cases h), fun _ => rfl⟩
 | some q => exact ⟨q.1, q.2, true, rfl, fun _ => rfl, fun h => (by cases h)⟩
theorem allC_mid_n {W H : Nat} {dk : List Bool} {kd : Bool} {y i : Nat} (h : patv (eds (lc dk (y * W) 1) W) (lc dk (y * W) 1 0) kd (shq kd) ((i : Int) - (sd kd : Nat)) = none) : allC W H dk (shq kd) kd y (i + 1 - sd kd) = allC W H dk (shq kd) kd y (i - sd kd) := by
  by_cases e : sd kd ≤ i
  · rw [show i + 1 - sd kd = (i - sd kd) + 1 by omega]
    exact allC_n (vis_n (by rw [show ((i - sd kd : Nat) : Int) = (i : Int) - (sd kd : Nat) by omega]; exact h))
  · rw [show i + 1 - sd kd = i - sd kd by omega]
theorem allC_mid_s {W H x a T : Nat} {dk : List Bool} {kd : Bool} {y i : Nat} (h : patv (eds (lc dk (y * W) 1) W) (lc dk (y * W) 1 0) kd (shq kd) ((i : Int) - (sd kd : Nat)) = some ((a : Int), (T : Int))) (hx : a + T / 2 = x) : allC W H dk (shq kd) kd y (i + 1 - sd kd) = allC W H dk (shq kd) kd y (i - sd kd) ++ [jud a T y (eds (lc dk x W) H) (lc dk x W 0) kd (shq kd)] := by
 obtain ⟨r, h1, _⟩ := patv_in h
 rw [show i + 1 - sd kd = (i - sd kd) + 1 by omega]
 exact allC_s (vis_s (q := ((a : Int), (T : Int))) (by rw [show ((i - sd kd : Nat) : Int) = (i : Int) - (sd kd : Nat) by omega]; exact h) (show (a : Int) + (T : Int) / 2 = (x : Int) by omega))
theorem allC_end {W H : Nat} {dk : List Bool} {kd : Bool} {y i : Nat} (h : i + 1 = (eds (lc dk (y * W) 1) W).length) : allC W H dk (shq kd) kd y (i - sd kd) = allC W H dk (shq kd) kd (y + 1) 0 := by
 have hr : runs W dk y = i + 1 := h.symm
 have hl := shq_len kd
 rw [← allC_y]
 exact allC_tail (runs W dk y - (i - sd kd)) _ (by omega) (by omega)
theorem key_lt {a b : Mk} (ha : bdm a) (hb : bdm b) : key a < key b ↔ (a.y < b.y ∨ (b.y = a.y ∧ a.x < b.x)) := by
 unfold bdm at ha hb; unfold key; omega
end Fi
end Go.Proofs.Ytbinlkobmlebpaa
