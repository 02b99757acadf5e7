/- finder, plain: the image of a code has three finders, and they are found. -/
import Derived.Test.Ytbinlkobmlebpaax16
import Derived.Test.YtbinlkobmlebpaaFdLx
import Derived.Test.YtbinlkobmlebpaaFd40x
set_option linter.unusedSimpArgs false
set_option linter.unusedVariables false
namespace Go.Proofs.Ytbinlkobmlebpaa
open Go.RowKit Sym
open Fi
namespace Fi
def pxc (n q s : Nat) (l : List Bool) (r c : Nat) : Bool :=
 if q * s ≤ r ∧ r < q * s + n * s ∧ q * s ≤ c ∧ c < q * s + n * s then l.getD ((r - q * s) / s * n + (c - q * s) / s) false else false
theorem md_top {s k m n : Nat} (h : md s k m) (hm : m < n) : k < n * s := Nat.lt_of_lt_of_le h.2 (Nat.mul_le_mul_right s hm)
theorem md_add {s a k m j : Nat} (h1 : a + m * s ≤ k) (h : md s (k - (a + m * s)) j) : md s (k - a) (m + j) := by
 unfold md at h ⊢
 have e1 : (m + j) * s = m * s + j * s := Nat.add_mul _ _ _
 have e2 : (m + j + 1) * s = m * s + (j + 1) * s := by rw [Nat.add_assoc, Nat.add_mul]
 rw [e1, e2]; omega
theorem pxc_cell {n q s X Y r c : Nat} {l : List Bool} (hm : MI n (n * n) l) (hX : X < n) (hY : Y < n) (hr : q * s ≤ r) (mr : md s (r - q * s) Y) (hc : q * s ≤ c) (mc : md s (c - q * s) X) (hz : zn (n : Int) X Y) : pxc n q s l r c = fz (n : Int) X Y := by
 have h1 := md_top mr hY
 have h2 := md_top mc hX
 unfold pxc
 rw [if_pos (by omega), md_div mr, md_div mc]
 have e1 : (Y * n + X) % n = X := by rw [Nat.add_comm, Nat.add_mul_mod_self_right, Nat.mod_eq_of_lt hX]
 have e2 : (Y * n + X) / n = Y := by rw [Nat.add_comm, Nat.add_mul_div_right _ _ (by omega), Nat.div_eq_of_lt hX, Nat.zero_add]
 have hin : Y * n + X < n * n := by
  have h1 := Nat.mul_le_mul_right n (show Y + 1 ≤ n by omega)
  rw [Nat.add_mul, Nat.one_mul] at h1; omega
 have h := hm.2 (Y * n + X) hin hin
 rw [e1, e2] at h
 exact h hz
theorem XF.mk {c : Nat → Bool} {W n q s mx J : Nat} {left : Bool} {g : Nat → Bool} (hs : 1 ≤ s) (hq : 1 ≤ q) (hn : 8 ≤ n) (hW : W = n * s + 2 * (q * s)) (hJ : J < 7)
    (hc : ∀ k I, q * s ≤ k → I < n → md s (k - q * s) I → mx ≤ I + 1 → I ≤ mx + 7 → c k = g I) (out : ∀ k, k < W → (k < q * s ∨ q * s + n * s ≤ k) → c k = false)
    (hg : ∀ I, I < 7 → g (mx + I) = decide (max (max ((I : Int) - 3) (3 - (I : Int))) (max ((J : Int) - 3) (3 - (J : Int))) ≠ 2))
    (hx : (left = true ∧ mx = 0 ∧ g 7 = false) ∨ (left = false ∧ mx + 7 = n ∧ g (mx - 1) = false)) : XF left c W (q * s + mx * s) s J := by
  have hqs : s ≤ q * s := by have := Nat.mul_le_mul_right s hq; omega
  have h8 : 8 * s ≤ n * s := Nat.mul_le_mul_right s hn
  unfold XF
  rcases hx with ⟨rfl, rfl, h7⟩ | ⟨rfl, hmx, h7⟩
  · rw [if_pos rfl]
    simp only [Nat.zero_mul, Nat.add_zero, Nat.zero_add] at *
    refine ⟨hs, hJ, by omega, fun k hk => out k (by omega) (.inl hk), fun k h1 h2 I hI hm => ?_, ?_⟩
    · rw [hc k I h1 (by omega) hm (by omega) (by omega)]; exact hg I hI
    · rw [hc (q * s + 7 * s) 7 (by omega) (by omega) (by unfold md; omega) (by omega) (by omega)]; exact h7
  · rw [if_neg (by decide)]
    have e1 : n * s = mx * s + 7 * s := by rw [← hmx, Nat.add_mul]
    have e2 : mx * s = (mx - 1) * s + s := by rw [show mx = mx - 1 + 1 by omega, Nat.add_mul, Nat.one_mul]; rfl
    refine ⟨hs, hJ, by omega, by omega, fun k h1 h2 => out k h2 (.inr (by omega)), fun k h1 h2 I hI hm => ?_, ?_⟩
    · rw [hc k (mx + I) (by omega) (by omega) (md_add h1 hm) (by omega) (by omega)]; exact hg I hI
    · rw [hc (q * s + mx * s - 1) (mx - 1) (by omega) (by omega) (by unfold md; rw [show mx - 1 + 1 = mx by omega]; omega) (by omega) (by omega)]; exact h7
theorem fz_fin {n mx my I J : Nat} {xl yl : Bool} (hn : 21 ≤ n) (hx : (xl = true ∧ mx = 0) ∨ (xl = false ∧ mx + 7 = n)) (hy : (yl = true ∧ my = 0) ∨ (yl = false ∧ my + 7 = n)) (hI : I < 7) (hJ : J < 7) :
  fz (n : Int) ((mx + I : Nat) : Int) ((my + J : Nat) : Int) = decide (max (max ((I : Int) - 3) (3 - (I : Int))) (max ((J : Int) - 3) (3 - (J : Int))) ≠ 2) := by
 unfold fz fzD fzA
 refine decide_eq_decide.2 ?_
 rcases hx with ⟨_, rfl⟩ | ⟨_, hx⟩ <;> rcases hy with ⟨_, rfl⟩ | ⟨_, hy⟩ <;> split <;> split <;> omega
theorem fz_sep {n m k J : Nat} {xl yl : Bool} (hn : 21 ≤ n) (hx : (xl = true ∧ k = 7) ∨ (xl = false ∧ k + 8 = n)) (hy : (yl = true ∧ m = 0) ∨ (yl = false ∧ m + 7 = n)) (hJ : J < 7) :
  fz (n : Int) (k : Int) ((m + J : Nat) : Int) = false ∧ fz (n : Int) ((m + J : Nat) : Int) (k : Int) = false := by
 unfold fz fzD fzA
 refine ⟨decide_eq_false ?_, decide_eq_false ?_⟩ <;> (rcases hx with ⟨_, rfl⟩ | ⟨_, hx⟩ <;> rcases hy with ⟨_, rfl⟩ | ⟨_, hy⟩ <;> split <;> (try split) <;> omega)
theorem zn_fin {n mx my I J : Nat} {xl yl : Bool} (hx : (xl = true ∧ mx = 0) ∨ (xl = false ∧ mx + 7 = n)) (hy : (yl = true ∧ my = 0) ∨ (yl = false ∧ my + 7 = n)) (hne : xl = true ∨ yl = true)
  (h1 : mx ≤ I + 1) (h2 : I ≤ mx + 7) (h3 : my ≤ J + 1) (h4 : J ≤ my + 7) : zn (n : Int) (I : Int) (J : Int) := by
 unfold zn
 rcases hx with ⟨rfl, rfl⟩ | ⟨rfl, hx⟩ <;> rcases hy with ⟨rfl, rfl⟩ | ⟨rfl, hy⟩
 · omega
 · omega
 · omega
 · simp at hne
theorem FP.code {n q s mx my W : Nat} {dk l : List Bool} {xl yl : Bool} (hs : 1 ≤ s) (hq : 1 ≤ q) (hn : 21 ≤ n) (hW : W = n * s + 2 * (q * s)) (hm : MI n (n * n) l) (hp : ∀ r c, r < W → c < W → px dk W r c = pxc n q s l r c)
    (hx : (xl = true ∧ mx = 0) ∨ (xl = false ∧ mx + 7 = n)) (hy : (yl = true ∧ my = 0) ∨ (yl = false ∧ my + 7 = n)) (hne : xl = true ∨ yl = true) : FP dk W (q * s + mx * s) (q * s + my * s) s xl yl := by
  have hqs : s ≤ q * s := by have := Nat.mul_le_mul_right s hq; omega
  have h8 : 21 * s ≤ n * s := Nat.mul_le_mul_right s hn
  have hmx : mx * s + 7 * s ≤ n * s := by rw [← Nat.add_mul]; exact Nat.mul_le_mul_right s (by omega)
  have hmy : my * s + 7 * s ≤ n * s := by rw [← Nat.add_mul]; exact Nat.mul_le_mul_right s (by omega)
  refine ⟨hs, by omega, by omega, fun r J h1 h2 hJ mr => ?_, fun x J h1 h2 hJ mx' => ?_, fun r hr => ⟨fun e k hk => ?_, fun e k hk hk2 => ?_⟩⟩
  · have mr' := md_add (a := q * s) h1 mr
    have hin : ∀ k I, q * s ≤ k → I < n → md s (k - q * s) I → mx ≤ I + 1 → I ≤ mx + 7 → px dk W r k = fz (n : Int) (I : Int) ((my + J : Nat) : Int) := fun k I a b c d e => by
      have := md_top c b
      rw [hp r k (by omega) (by omega)]
      exact pxc_cell hm b (by omega) (by omega) mr' a c (zn_fin hx hy hne d e (by omega) (by omega))
    refine XF.mk (g := fun I => fz (n : Int) (I : Int) ((my + J : Nat) : Int)) hs hq (by omega) hW hJ hin (fun k a b => ?_) (fun I hI => fz_fin hn hx hy hI hJ) ?_
    · show px dk W r k = false
      rw [hp r k (by omega) a]; unfold pxc; exact if_neg (by omega)
    · rcases hx with ⟨a, b⟩ | ⟨a, b⟩
      · exact .inl ⟨a, b, (fz_sep hn (.inl ⟨a, rfl⟩) hy hJ).1⟩
      · exact .inr ⟨a, b, (fz_sep (k := mx - 1) hn (.inr ⟨a, by omega⟩) hy hJ).1⟩
  · have mc := md_add (a := q * s) h1 mx'
    have hin : ∀ k I, q * s ≤ k → I < n → md s (k - q * s) I → my ≤ I + 1 → I ≤ my + 7 → px dk W k x = fz (n : Int) ((mx + J : Nat) : Int) (I : Int) := fun k I a b c d e => by
      have := md_top c b
      rw [hp k x (by omega) (by omega)]
      exact pxc_cell hm (by omega) b a c (by omega) mc (zn_fin hx hy hne (by omega) (by omega) d e)
    refine XF.mk (g := fun I => fz (n : Int) ((mx + J : Nat) : Int) (I : Int)) hs hq (by omega) hW hJ hin (fun k a b => ?_) (fun I hI => ?_) ?_
    · show px dk W k x = false
      rw [hp k x a (by omega)]; unfold pxc; exact if_neg (by omega)
    · rw [fz_fin hn hx hy hJ hI]; exact decide_eq_decide.2 (by omega)
    · rcases hy with ⟨a, b⟩ | ⟨a, b⟩
      · exact .inl ⟨a, b, (fz_sep hn (.inl ⟨a, rfl⟩) hx hJ).2⟩
      · exact .inr ⟨a, b, (fz_sep (k := my - 1) hn (.inr ⟨a, by omega⟩) hx hJ).2⟩
  · rcases hx with ⟨a, rfl⟩ | ⟨a, b⟩
    · rw [hp r k hr (by omega)]; unfold pxc; exact if_neg (by omega)
    · rw [a] at e; cases e
  · rcases hx with ⟨a, rfl⟩ | ⟨a, b⟩
    · rw [a] at e; cases e
    · have e1 : n * s = mx * s + 7 * s := by rw [← b, Nat.add_mul]
      rw [hp r k hr hk2]; unfold pxc; exact if_neg (by omega)
theorem code_has {n q s mx my W : Nat} {dk l : List Bool} {xl yl : Bool} (hs : 1 ≤ s) (hq : 1 ≤ q) (hn : 21 ≤ n) (hW : W = n * s + 2 * (q * s)) (hm : MI n (n * n) l) (hp : ∀ r c, r < W → c < W → px dk W r c = pxc n q s l r c)
  (hx : (xl = true ∧ mx = 0) ∨ (xl = false ∧ mx + 7 = n)) (hy : (yl = true ∧ my = 0) ∨ (yl = false ∧ my + 7 = n)) (hne : xl = true ∨ yl = true) (hle : (mrk W W dk (shq true) true).length ≤ 256) :
  ∃ m ∈ isort key (mrk W W dk (shq true) true), isAt m (14 * (q * s + mx * s : Nat) + 49 * s) (14 * (q * s + my * s : Nat) + 49 * s) (14 * s) := by
 obtain ⟨m, h1, h2⟩ := (FP.code hs hq hn hW hm hp hx hy hne).mark hle
 exact ⟨m, (isort_mem _ _ _).2 h1, h2⟩
theorem code_ok {W : Nat} {dk : List Bool} (hW : W ≤ 4096) (hle : (mrk W W dk (shq true) true).length ≤ 256) : (isort key (mrk W W dk (shq true) true)).length ≤ 256 ∧ ∀ m ∈ isort key (mrk W W dk (shq true) true), mok m :=
 ⟨by rw [isort_len]; exact hle, fun m h => mrk_ok hW hle m ((isort_mem _ _ _).1 h)⟩
theorem code_tri {l : List Mk} {c r d s v : Nat} {lo hi : Int} (hs : 1 ≤ s) (hv : 1 ≤ v ∧ v ≤ 6) (hhi : hi = lo + 14 * s * (10 + 4 * v)) (hc : c < l.length) (hr : r < l.length) (hd : d < l.length)
    (ac : isAt l[c] lo lo (14 * s)) (ar : isAt l[r] hi lo (14 * s)) (ad : isAt l[d] lo hi (14 * s)) : (c, r, d) ∈ trs l := by
  have hD : 14 * (14 * (s : Int)) ≤ 14 * s * (10 + 4 * v) := by
    rw [Int.mul_comm 14 (14 * (s : Int))]; exact Int.mul_le_mul_of_nonneg_left (by omega) (by omega)
  refine trs_mem hc hr hd ?_
  unfold okT
  obtain ⟨c1, c2, c3⟩ := ac
  obtain ⟨r1, r2, r3⟩ := ar
  obtain ⟨d1, d2, d3⟩ := ad
  subst hhi
  refine if_pos ⟨fun e => ?_, fun e => ?_, fun e => ?_, ?_⟩
  · subst e; omega
  · subst e; omega
  · subst e; omega
  · rw [List.getD_eq_getElem?_getD, List.getElem?_eq_getElem hc, List.getD_eq_getElem?_getD, List.getElem?_eq_getElem hr, List.getD_eq_getElem?_getD, List.getElem?_eq_getElem hd]
    exact tri_code (by omega) hD c1 c2 c3 r1 r2 r3 d1 d2 d3
theorem code_dim {c r d : Mk} {s v : Nat} {lo hi : Int} {x : Value} (hs : 1 ≤ s) (hv : 1 ≤ v ∧ v ≤ 6) (hhi : hi = lo + 14 * s * (10 + 4 * v)) (h : dimV c r d x) (hk : mok c ∧ mok r ∧ mok d)
    (ac : isAt c lo lo (14 * s)) (ar : isAt r hi lo (14 * s)) (ad : isAt d lo hi (14 * s)) : x = .tuple #[i64 (17 + 4 * v), i64 0] := by
  obtain ⟨c1, c2, c3⟩ := ac
  obtain ⟨r1, r2, r3⟩ := ar
  obtain ⟨d1, d2, d3⟩ := ad
  rcases h with ⟨h1, _⟩ | ⟨_, ru, rv, h1, h2, rfl⟩
  · exact (h1 hk).elim
  · have hD : 0 ≤ 14 * (s : Int) * (10 + 4 * v) := Int.mul_nonneg (by omega) (by omega)
    rw [show r.x - c.x = 14 * (s : Int) * (10 + 4 * v) by omega, show r.y - c.y = 0 by omega, show dt (14 * (s : Int) * (10 + 4 * v)) 0 (14 * s * (10 + 4 * v)) 0 = (14 * (s : Int) * (10 + 4 * v)) * (14 * (s : Int) * (10 + 4 * v)) by unfold dt; rw [Int.zero_mul, Int.add_zero]] at h1
    rw [show d.x - c.x = 0 by omega, show d.y - c.y = 14 * (s : Int) * (10 + 4 * v) by omega, show dt 0 (14 * (s : Int) * (10 + 4 * v)) 0 (14 * s * (10 + 4 * v)) = (14 * (s : Int) * (10 + 4 * v)) * (14 * (s : Int) * (10 + 4 * v)) by unfold dt; rw [Int.zero_mul, Int.zero_add]] at h2
    rw [isR_sq hD h1, isR_sq hD h2, c3, r3, d3, dim_code hs hv]
end Fi
end Go.Proofs.Ytbinlkobmlebpaa
