/- finder, plain: the reference's sightings and marks. -/
import Derived.Test.YtbinlkobmlebpaaFdFx
set_option linter.unusedSimpArgs false
set_option linter.unusedVariables false
namespace Go.Proofs.Ytbinlkobmlebpaa
open Go.RowKit Sym
namespace Fi
def sgl (cs : List (Option Mk)) : List Mk := cs.filterMap id
def addAll (l : List Mk) (ss : List Mk) : List Mk := ss.foldl addM l
theorem addM_len (l : List Mk) (m : Mk) : l.length ≤ (addM l m).length ∧ (addM l m).length ≤ l.length + 1 := by
 have hle := fdx_le m.x m.y l
 by_cases e : fdx m.x m.y l < l.length
 · rw [addM_t e rfl, List.length_set]; omega
 · rw [addM_f (by omega), List.length_append]; simp
theorem addAll_mono : ∀ (ss l : List Mk), l.length ≤ (addAll l ss).length
 | [], l => Nat.le_refl _
 | m :: ss, l => Nat.le_trans (addM_len l m).1 (addAll_mono ss (addM l m))
theorem fold_full : ∀ (cs : List (Option Mk)) (l : List Mk), l.length ≤ 256 → ((addAll l (sgl cs)).length ≤ 256 → fold l cs = addAll l (sgl cs)) ∧ (256 < (addAll l (sgl cs)).length → 256 < (fold l cs).length)
 | [], l, h => ⟨fun _ => rfl, fun k => k⟩
 | o :: cs, l, h => by
  have e : addAll l (sgl (o :: cs)) = addAll (stp l o) (sgl cs) := by cases o <;> rfl
  rw [e]
  unfold fold
  have hm := addAll_mono (sgl cs) (stp l o)
  by_cases c : 256 < (stp l o).length
  · rw [if_pos c]; exact ⟨fun k => by omega, fun _ => c⟩
  · rw [if_neg c]; exact fold_full cs _ (by omega)
theorem rn_eq {es : List Int} {y : Int} {j : Nat} (hs : es.Pairwise (· < ·)) (hj : j + 1 < es.length) (h1 : es[j] ≤ y) (h2 : y < es[j + 1]) : rn es y = j := by
 unfold rn
 rw [cnt_eq (a := j + 1) (by omega) (srt_lt hs (by omega) (by omega)) (fun i hi hl => by have := srt_ge hs hj (x := y + 1) (by omega) i hi hl; omega)]
 omega
theorem eds_last (c : Nat → Bool) (n : Nat) {j : Nat} (h : j + 1 = (eds c n).length) : (eds c n)[j]? = some (n : Int) := by
 unfold eds at *
 rw [List.length_append, List.length_singleton] at h
 rw [List.getElem?_append_right (by omega), show j - (edg c n).length = 0 by omega]; rfl
end Fi
end Go.Proofs.Ytbinlkobmlebpaa
