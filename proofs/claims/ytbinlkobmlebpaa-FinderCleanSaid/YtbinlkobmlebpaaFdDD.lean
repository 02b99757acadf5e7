/- finder, plain: the marks of a pattern alone in a bitmap. -/
import Derived.Test.YtbinlkobmlebpaaFdCD
set_option linter.unusedSimpArgs false
set_option linter.unusedVariables false
namespace Go.Proofs.Ytbinlkobmlebpaa
open Go.RowKit Sym
namespace Fi
theorem pat_at {W H x y s r k : Nat} (hr : r < H) (hk : k < W) : (pat W H x y s).getD (r * W + k) false = pt s x y r k := by
 have h1 := Nat.mul_le_mul_right W (show r + 1 ≤ H by omega)
 rw [Nat.add_mul, Nat.one_mul, Nat.mul_comm H W] at h1
 have e1 : (r * W + k) / W = r := by rw [Nat.add_comm, Nat.add_mul_div_right _ _ (by omega), Nat.div_eq_of_lt hk, Nat.zero_add]
 have e2 : (r * W + k) % W = k := by rw [Nat.add_comm, Nat.add_mul_mod_self_right, Nat.mod_eq_of_lt hk]
 rw [List.getD_eq_getElem?_getD]
 unfold pat
 rw [tab_get (by omega), e1, e2]; rfl
theorem row_eds {W H x y s r : Nat} (hr : r < H) : eds (lc (pat W H x y s) (r * W) 1) W = eds (fun k => pt s x y r k) W := eds_congr fun k hk => by
 show (pat W H x y s).getD (r * W + k * 1) false = _
 rw [Nat.mul_one, pat_at hr hk]
theorem col_eds {W H x y s c : Nat} (hc : c < W) : eds (lc (pat W H x y s) c W) H = eds (fun k => pt s y x c k) H := eds_congr fun k hk => by
 show (pat W H x y s).getD (c + k * W) false = _
 rw [Nat.add_comm, pat_at hk hc, pt_sym]
def mid (s x n : Nat) : List Int := [0, (x : Int), ((x + s : Nat) : Int), ((x + 2 * s : Nat) : Int), ((x + 5 * s : Nat) : Int), ((x + 6 * s : Nat) : Int), ((x + 7 * s : Nat) : Int), (n : Int)]
theorem patv_mid (s x n run : Nat) : patv (mid s x n) false true (shq true) (run : Int) = if run = 1 then some ((x : Int), ((7 * s : Nat) : Int)) else none := by
  by_cases e : run = 1
  · subst e
    rw [if_pos rfl, patv_ok (r := 1) (by show ¬ (_ ∨ (8 : Int) ≤ 1 + 5 ∨ _); simp) (fun i hi => ?_)]
    · congr 2
      show (((x + 7 * s : Nat) : Int)) - (x : Int) = _
      omega
    · have hi' : i = 0 ∨ i = 1 ∨ i = 2 ∨ i = 3 ∨ i = 4 := by have : i < 5 := hi; omega
      rcases hi' with rfl | rfl | rfl | rfl | rfl
      · show 2 * max (7 * (((x + s : Nat) : Int) - (x : Int)) - 1 * (((x + 7 * s : Nat) : Int) - (x : Int))) (-(7 * (((x + s : Nat) : Int) - (x : Int)) - 1 * (((x + 7 * s : Nat) : Int) - (x : Int)))) ≤ ((x + 7 * s : Nat) : Int) - (x : Int); omega
      · show 2 * max (7 * (((x + 2 * s : Nat) : Int) - ((x + s : Nat) : Int)) - 1 * (((x + 7 * s : Nat) : Int) - (x : Int))) (-(7 * (((x + 2 * s : Nat) : Int) - ((x + s : Nat) : Int)) - 1 * (((x + 7 * s : Nat) : Int) - (x : Int)))) ≤ ((x + 7 * s : Nat) : Int) - (x : Int); omega
      · show 2 * max (7 * (((x + 5 * s : Nat) : Int) - ((x + 2 * s : Nat) : Int)) - 3 * (((x + 7 * s : Nat) : Int) - (x : Int))) (-(7 * (((x + 5 * s : Nat) : Int) - ((x + 2 * s : Nat) : Int)) - 3 * (((x + 7 * s : Nat) : Int) - (x : Int)))) ≤ ((x + 7 * s : Nat) : Int) - (x : Int); omega
      · show 2 * max (7 * (((x + 6 * s : Nat) : Int) - ((x + 5 * s : Nat) : Int)) - 1 * (((x + 7 * s : Nat) : Int) - (x : Int))) (-(7 * (((x + 6 * s : Nat) : Int) - ((x + 5 * s : Nat) : Int)) - 1 * (((x + 7 * s : Nat) : Int) - (x : Int)))) ≤ ((x + 7 * s : Nat) : Int) - (x : Int); omega
      · show 2 * max (7 * (((x + 7 * s : Nat) : Int) - ((x + 6 * s : Nat) : Int)) - 1 * (((x + 7 * s : Nat) : Int) - (x : Int))) (-(7 * (((x + 7 * s : Nat) : Int) - ((x + 6 * s : Nat) : Int)) - 1 * (((x + 7 * s : Nat) : Int) - (x : Int)))) ≤ ((x + 7 * s : Nat) : Int) - (x : Int); omega
  · rw [if_neg e]
    refine patv_no ?_
    by_cases e2 : run < 3
    · refine .inr (.inr (fun q => ?_))
      have h1 : ¬ ((run : Int) % 2 = 0) := fun z => by have := q.1 z; cases this
      omega
    · refine .inr (.inl ?_)
      show (8 : Int) ≤ (run : Int) + 5
      omega
theorem patv_few {es : List Int} (h : es.length ≤ 6) (run : Nat) : patv es false true (shq true) (run : Int) = none := by
  refine patv_no ?_
  by_cases e : run = 0
  · subst e; exact .inr (.inr (fun q => by have := q.1 rfl; cases this))
  · refine .inr (.inl ?_)
    show (es.length : Int) ≤ (run : Int) + 5
    omega
theorem patv_few7 {es : List Int} (h : es.length ≤ 6) (d0 : Bool) (run : Nat) : patv es d0 false (shq false) (run : Int) = none := by
 refine patv_no (.inr (.inl ?_))
 show (es.length : Int) ≤ (run : Int) + 7
 omega
theorem patv_mid7 {s x n : Nat} (hs : 1 ≤ s) (hn : x + 7 * s < n) (run : Nat) : patv (mid s x n) false false (shq false) (run : Int) = none := by
  by_cases e : run = 0
  · subst e
    cases h : patv (mid s x n) false false (shq false) ((0 : Nat) : Int) with
    | none => rfl
    | some q =>
      obtain ⟨r, h1, _, _, _, h5⟩ := patv_in h
      obtain rfl : r = 0 := by omega
      have f0 : 2 * max (7 * ((x : Int) - 0) - 1 * ((n : Int) - 0)) (-(7 * ((x : Int) - 0) - 1 * ((n : Int) - 0))) ≤ (n : Int) - 0 := h5 0 (by decide)
      have f1 : 2 * max (7 * (((x + s : Nat) : Int) - (x : Int)) - 1 * ((n : Int) - 0)) (-(7 * (((x + s : Nat) : Int) - (x : Int)) - 1 * ((n : Int) - 0))) ≤ (n : Int) - 0 := h5 1 (by decide)
      have f3 : 2 * max (7 * (((x + 5 * s : Nat) : Int) - ((x + 2 * s : Nat) : Int)) - 1 * ((n : Int) - 0)) (-(7 * (((x + 5 * s : Nat) : Int) - ((x + 2 * s : Nat) : Int)) - 1 * ((n : Int) - 0))) ≤ (n : Int) - 0 := h5 3 (by decide)
      have f6 : 2 * max (7 * ((n : Int) - ((x + 7 * s : Nat) : Int)) - 1 * ((n : Int) - 0)) (-(7 * ((n : Int) - ((x + 7 * s : Nat) : Int)) - 1 * ((n : Int) - 0))) ≤ (n : Int) - 0 := h5 6 (by decide)
      omega
  · refine patv_no (.inr (.inl ?_))
    show (8 : Int) ≤ (run : Int) + 7
    omega
section
variable {W H x y s : Nat}
theorem mid_row (hs : 1 ≤ s) (hx : 1 ≤ x) (hW : x + 7 * s < W) {r : Nat} (hrH : r < H) (h1 : y + 2 * s ≤ r) (h2 : r < y + 5 * s) : eds (lc (pat W H x y s) (r * W) 1) W = mid s x W := by
 rw [row_eds hrH]
 by_cases z2 : r < y + 3 * s
 · exact eds_mid hs hx hW (J := 2) (by unfold md; omega) (by omega) (by omega)
 by_cases z3 : r < y + 4 * s
 · exact eds_mid hs hx hW (J := 3) (by unfold md; omega) (by omega) (by omega)
 · exact eds_mid hs hx hW (J := 4) (by unfold md; omega) (by omega) (by omega)
theorem side_row (hs : 1 ≤ s) (hx : 1 ≤ x) (hW : x + 7 * s < W) {r : Nat} (hrH : r < H) (h : ¬ (y + 2 * s ≤ r ∧ r < y + 5 * s)) : (eds (lc (pat W H x y s) (r * W) 1) W).length ≤ 6 := by
 rw [row_eds hrH]; exact eds_side hs hx hW h
theorem row_zero (hx : 1 ≤ x) (hW : x + 7 * s < W) {r : Nat} (hrH : r < H) : lc (pat W H x y s) (r * W) 1 0 = false := by
 show (pat W H x y s).getD (r * W + 0 * 1) false = _
 rw [Nat.zero_mul, pat_at hrH (by omega)]; exact pt_out (by omega)
theorem mid_col (hs : 1 ≤ s) (hy : 1 ≤ y) (hW : x + 7 * s < W) (hH : y + 7 * s < H) : eds (lc (pat W H x y s) (x + 7 * s / 2) W) H = mid s y H := by
 rw [col_eds (by omega)]
 exact eds_mid hs hy hH (J := 3) (by unfold md; omega) (by omega) (by omega)
theorem col_zero (hy : 1 ≤ y) (hW : x + 7 * s < W) (hH : y + 7 * s < H) : lc (pat W H x y s) (x + 7 * s / 2) W 0 = false := by
 show (pat W H x y s).getD (x + 7 * s / 2 + 0 * W) false = _
 rw [Nat.zero_mul, Nat.add_zero, ← Nat.zero_add (x + 7 * s / 2), ← Nat.zero_mul W, pat_at (by omega) (by omega)]; exact pt_out (by omega)
def mko (x y s : Nat) : Mk := ⟨14 * x + 49 * s, 14 * y + 49 * s, 14 * s, 1⟩
theorem jud_mid (hs : 1 ≤ s) (hy : 1 ≤ y) (hW : x + 7 * s < W) (hH : y + 7 * s < H) {r : Nat} (h1 : y + 2 * s ≤ r) (h2 : r < y + 5 * s) :
  jud (x : Int) ((7 * s : Nat) : Int) (r : Int) (eds (lc (pat W H x y s) (x + 7 * s / 2) W) H) (lc (pat W H x y s) (x + 7 * s / 2) W 0) true (shq true) = some (mko x y s) := by
 have hsrt : (mid s y H).Pairwise (· < ·) := by rw [← mid_col hs hy hW hH]; exact eds_srt _ _
 rw [mid_col hs hy hW hH, col_zero hy hW hH]
 have hrn : rn (mid s y H) (r : Int) = (3 : Nat) := rn_eq hsrt (j := 3) (by show 4 < 8; decide) (by show ((y + 2 * s : Nat) : Int) ≤ r; omega) (by show (r : Int) < ((y + 5 * s : Nat) : Int); omega)
 have hp : patv (mid s y H) false true (shq true) (rn (mid s y H) (r : Int) - ((shq true).length : Int) / 2) = some ((y : Int), ((7 * s : Nat) : Int)) := by
  rw [hrn, show ((3 : Nat) : Int) - ((shq true).length : Int) / 2 = ((1 : Nat) : Int) from rfl, patv_mid, if_pos rfl]
 rw [jud_t hp (by show ¬ (_ < 4 * max (((7 * s : Nat) : Int) - ((7 * s : Nat) : Int)) (((7 * s : Nat) : Int) - ((7 * s : Nat) : Int))); omega)]
 unfold mko
 congr 2 <;> (try show _ = _) <;> (try simp only) <;> omega
theorem vis_mid (hs : 1 ≤ s) (hx : 1 ≤ x) (hy : 1 ≤ y) (hW : x + 7 * s < W) (hH : y + 7 * s < H) {r : Nat} (h1 : y + 2 * s ≤ r) (h2 : r < y + 5 * s) (run : Nat) :
    vis W H (pat W H x y s) (shq true) true r run = if run = 1 then some (some (mko x y s)) else none := by
  have hp := patv_mid s x W run
  rw [← mid_row hs hx hW (H := H) (y := y) (r := r) (by omega) h1 h2, ← row_zero (H := H) (y := y) (s := s) hx hW (r := r) (by omega)] at hp
  by_cases e : run = 1
  · rw [if_pos e] at hp ⊢
    rw [vis_s hp (x := x + 7 * s / 2) (by show (x : Int) + ((7 * s : Nat) : Int) / 2 = _; omega)]
    exact congrArg some (jud_mid hs hy hW hH h1 h2)
  · rw [if_neg e] at hp ⊢
    exact vis_n hp
theorem rowC_mid (hs : 1 ≤ s) (hx : 1 ≤ x) (hy : 1 ≤ y) (hW : x + 7 * s < W) (hH : y + 7 * s < H) {r : Nat} (h1 : y + 2 * s ≤ r) (h2 : r < y + 5 * s) :
  rowC W H (pat W H x y s) (shq true) true r (runs W (pat W H x y s) r) = [some (mko x y s)] := by
 have hr : runs W (pat W H x y s) r = 8 := by unfold runs; rw [mid_row hs hx hW (by omega) h1 h2]; rfl
 unfold rowC
 rw [hr, show vis W H (pat W H x y s) (shq true) true r = fun run => if run = 1 then some (some (mko x y s)) else none from funext (vis_mid hs hx hy hW hH h1 h2)]
 rfl
theorem rowC_side (hs : 1 ≤ s) (hx : 1 ≤ x) (hW : x + 7 * s < W) {r : Nat} (hrH : r < H) (h : ¬ (y + 2 * s ≤ r ∧ r < y + 5 * s)) (k : Nat) :
  rowC W H (pat W H x y s) (shq true) true r k = [] := by
 unfold rowC
 rw [List.filterMap_eq_nil_iff]
 exact fun a _ => vis_n (by rw [row_zero hx hW hrH]; exact patv_few (side_row hs hx hW hrH h) a)
theorem rowC_no (hs : 1 ≤ s) (hx : 1 ≤ x) (hW : x + 7 * s < W) {r : Nat} (hrH : r < H) (k : Nat) : rowC W H (pat W H x y s) (shq false) false r k = [] := by
 unfold rowC
 rw [List.filterMap_eq_nil_iff]
 refine fun a _ => vis_n ?_
 by_cases h : y + 2 * s ≤ r ∧ r < y + 5 * s
 · rw [row_zero hx hW hrH, mid_row hs hx hW hrH h.1 h.2]; exact patv_mid7 hs hW a
 · exact patv_few7 (side_row hs hx hW hrH h) _ a
theorem flat_rep {α : Type} (o : α) (a b : Nat) (f : Nat → List α) : ∀ n, (∀ r, r < n → f r = if a ≤ r ∧ r < b then [o] else []) → (List.range n).flatMap f = List.replicate (min n b - a) o
 | 0, _ => by simp
 | n + 1, h => by
  rw [List.range_succ, List.flatMap_append, flat_rep o a b f n (fun r hr => h r (by omega)), List.flatMap_cons, List.flatMap_nil, List.append_nil, h n (by omega)]
  by_cases e : a ≤ n ∧ n < b
  · rw [if_pos e, show min (n + 1) b - a = (min n b - a) + 1 by omega, List.replicate_succ']
  · rw [if_neg e, List.append_nil, show min (n + 1) b - a = min n b - a by omega]
theorem sgl_rep (n : Nat) (m : Mk) : sgl (List.replicate n (some m)) = List.replicate n m := by
 induction n with
 | zero => rfl
 | succ n ih => rw [List.replicate_succ, List.replicate_succ, ← ih]; rfl
theorem addAll_rep (m : Mk) (hm : 0 ≤ m.s) (h1 : m.n = 1) : ∀ n : Nat, addAll [] (List.replicate (n + 1) m) = [{ m with n := (n + 1 : Nat) }]
 | 0 => by
  show [m] = _
  cases m; simp at h1; simp [h1]
 | n + 1 => by
  rw [List.replicate_succ', addAll_snoc, addAll_rep m hm h1 n]
  have hn : nearM { m with n := ((n + 1 : Nat) : Int) } m.x m.y := by unfold nearM; simp only; omega
  rw [addM_t (k := 0) (by simp) (by unfold fdx; rw [if_pos hn])]
  simp
theorem mrk_one (hs : 1 ≤ s ∧ s ≤ 6) (hx : 1 ≤ x) (hy : 1 ≤ y) (hW : x + 7 * s < W) (hH : y + 7 * s < H) : mrk W H (pat W H x y s) (shq true) true = [⟨14 * x + 49 * s, 14 * y + 49 * s, 14 * s, 3 * s⟩] := by
 have ha : allC W H (pat W H x y s) (shq true) true H 0 = List.replicate (3 * s) (some (mko x y s)) := by
  unfold allC
  rw [flat_rep (some (mko x y s)) (y + 2 * s) (y + 5 * s) _ H (fun r hr => by
   by_cases h : y + 2 * s ≤ r ∧ r < y + 5 * s
   · rw [if_pos h]; exact rowC_mid hs.1 hx hy hW hH h.1 h.2
   · rw [if_neg h]; exact rowC_side hs.1 hx hW hr h _)]
  rw [show rowC W H (pat W H x y s) (shq true) true H 0 = [] from rfl, List.append_nil, show min H (y + 5 * s) - (y + 2 * s) = 3 * s by omega]
 have hr := addAll_rep (mko x y s) (by show 0 ≤ 14 * (s : Int); omega) rfl (3 * s - 1)
 rw [show 3 * s - 1 + 1 = 3 * s by omega] at hr
 have hf := (fold_full (List.replicate (3 * s) (some (mko x y s))) [] (by decide)).1 (by rw [sgl_rep, hr]; show 1 ≤ 256; decide)
 unfold mrk
 rw [ha, hf, sgl_rep, hr]
 unfold mko
 congr 2
theorem mrk_none (hs : 1 ≤ s) (hx : 1 ≤ x) (hW : x + 7 * s < W) : mrk W H (pat W H x y s) (shq false) false = [] := by
 have ha : allC W H (pat W H x y s) (shq false) false H 0 = [] := by
  unfold allC
  rw [flat_rep (none : Option Mk) 0 0 _ H (fun r hr => by rw [if_neg (by omega)]; exact rowC_no hs hx hW hr _)]
  rw [show rowC W H (pat W H x y s) (shq false) false H 0 = [] from rfl, show min H 0 - 0 = 0 by omega]; rfl
 unfold mrk
 rw [ha]; rfl
end
end Fi
end Go.Proofs.Ytbinlkobmlebpaa
