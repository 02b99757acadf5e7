
/- prefix: symMerge, plain: places and weights. -/
import Derived.Test.YtdcgmkoonanpgaaPf22
namespace Go.Proofs.Ytdcgmkoonanpgaa
set_option linter.unusedSimpArgs false
set_option linter.unusedVariables false
open Go.RowKit Sym

theorem shr_u64 (c : Nat) : (c : Int) / 2 ^ min ((1 : Int)).toNat IntKind.u64.bits = ((c / 2 : Nat) : Int) := by
  have e1 : min ((1 : Int)).toNat IntKind.u64.bits = 1 := by decide
  rw [e1]; simp
/-- the weight at a place -/
def W (D : List It) (k : Nat) : Nat := (D.map wi).getD k 0
theorem W_eq {D : List It} {k : Nat} (h : k < D.length) : W D k = wi D[k] := wget h
theorem W_x {la lx ly lc : List It} {k : Nat} (h : k < lx.length) : W (la ++ lx ++ ly ++ lc) (la.length + k) = (lx.map wi).getD k 0 := by
  unfold W
  rw [List.getD_eq_getElem?_getD, List.getD_eq_getElem?_getD, List.getElem?_map, List.getElem?_map, List.append_assoc, List.append_assoc, List.getElem?_append_right (by omega), Nat.add_sub_cancel_left, List.getElem?_append_left h]
theorem W_y {la lx ly lc : List It} {k : Nat} (h : k < ly.length) : W (la ++ lx ++ ly ++ lc) (la.length + lx.length + k) = (ly.map wi).getD k 0 := by
  unfold W
  rw [List.getD_eq_getElem?_getD, List.getD_eq_getElem?_getD, List.getElem?_map, List.getElem?_map, List.append_assoc, List.getElem?_append_right (by simp), List.length_append, Nat.add_sub_cancel_left, List.getElem?_append_left h]
theorem D_len {la lx ly lc : List It} : (la ++ lx ++ ly ++ lc).length = la.length + lx.length + ly.length + lc.length := by simp only [List.length_append]
/-- the runs, cut at the places that the search finds -/
theorem sym_cut {lx ly : List It} {s t : Nat} (hx : Srt wi lx) (hy : Srt wi ly) (hs : s ≤ lx.length) (ht : t ≤ ly.length)
    (h1 : s = 0 ∨ t = ly.length ∨ (lx.map wi).getD (s - 1) 0 ≤ (ly.map wi).getD t 0) (h2 : t = 0 ∨ s = lx.length ∨ (ly.map wi).getD (t - 1) 0 < (lx.map wi).getD s 0) :
    mrg wi lx ly = mrg wi (lx.take s) (ly.take t) ++ mrg wi (lx.drop s) (ly.drop t) := by
  have := mrg_split (g := wi) (lx.take s) (ly.take t) (lx.drop s) (ly.drop t) (fun x h y h' => by
    rcases h1 with h1 | h1 | h1
    · subst h1; simp at h
    · subst h1; simp at h'
    · have a := srt_take hx hs (.inr h1) x h
      have b := srt_drop hy (u := t) (w := (ly.map wi).getD t 0) (.inr (Nat.le_refl _)) y h'
      omega) (fun y h x h' => by
    rcases h2 with h2 | h2 | h2
    · subst h2; simp at h
    · subst h2; simp at h'
    · have a := srt_take hy ht (w := (ly.map wi).getD (t - 1) 0) (.inr (Nat.le_refl _)) y h
      have b := srt_drop hx (u := s) (w := (lx.map wi).getD s 0) (.inr (Nat.le_refl _)) x h'
      omega)
  rw [List.take_append_drop, List.take_append_drop] at this; exact this
end Go.Proofs.Ytdcgmkoonanpgaa
