/- Components: their first pixels, their numbers, their boxes; plain mathematics. D: the pixels of the colour; R: joined. -/
import Derived.Test.YtnnmebpahickhaaGrow
namespace Go.Proofs.Ytnnmebpahickhaa
set_option linter.unusedSimpArgs false
set_option linter.unusedVariables false
open Classical

section
variable (D : Nat → Prop) (R : Nat → Nat → Prop)
/-- the first pixel of its component -/
def Fst (i : Nat) : Prop := D i ∧ ∀ j, j < i → D j → ¬ R j i
/-- how many components begin before k -/
noncomputable def nf : Nat → Nat
  | 0 => 0
  | k + 1 => nf k + if Fst D R k then 1 else 0
/-- how many pixels of f's component lie before k -/
noncomputable def cnt (f : Nat) : Nat → Nat
  | 0 => 0
  | k + 1 => cnt f k + if D k ∧ R f k then 1 else 0
end
section
variable {D : Nat → Prop} {R : Nat → Nat → Prop}
theorem nf_succ_pos {k : Nat} (h : Fst D R k) : nf D R (k + 1) = nf D R k + 1 := by rw [nf, if_pos h]
theorem nf_succ_neg {k : Nat} (h : ¬ Fst D R k) : nf D R (k + 1) = nf D R k := by rw [nf, if_neg h, Nat.add_zero]
theorem nf_mono {k m : Nat} (h : k ≤ m) : nf D R k ≤ nf D R m := by
  induction m with
  | zero => obtain rfl : k = 0 := by omega
            exact Nat.le_refl _
  | succ m ih =>
    by_cases e : k = m + 1
    · subst e; exact Nat.le_refl _
    · have := ih (by omega); rw [nf]; omega
theorem nf_lt {f k : Nat} (h : Fst D R f) (hk : f < k) : nf D R f < nf D R k := by
  have := nf_mono (D := D) (R := R) (show f + 1 ≤ k from hk)
  rw [nf_succ_pos h] at this; omega
theorem nf_le (k : Nat) : nf D R k ≤ k := by
  induction k with
  | zero => exact Nat.le_refl _
  | succ k ih => rw [nf]; split <;> omega
theorem nf_inj {f g : Nat} (hf : Fst D R f) (hg : Fst D R g) (h : nf D R f = nf D R g) : f = g := by
  rcases Nat.lt_trichotomy f g with h1 | h1 | h1
  · have := nf_lt hf h1; omega
  · exact h1
  · have := nf_lt hg h1; omega
/-- each number below nf k is that of a first pixel before k -/
theorem nf_surj {q k : Nat} (h : q < nf D R k) : ∃ f, f < k ∧ Fst D R f ∧ nf D R f = q := by
  induction k with
  | zero => simp [nf] at h
  | succ k ih =>
    by_cases hk : Fst D R k
    · rw [nf_succ_pos hk] at h
      by_cases e : q = nf D R k
      · exact ⟨k, by omega, hk, e.symm⟩
      · obtain ⟨f, h1, h2, h3⟩ := ih (by omega); exact ⟨f, by omega, h2, h3⟩
    · rw [nf_succ_neg hk] at h
      obtain ⟨f, h1, h2, h3⟩ := ih h; exact ⟨f, by omega, h2, h3⟩
theorem first_of (hr : ∀ i, R i i) (ht : ∀ i j k, R i j → R j k → R i k) : ∀ (i : Nat), D i → ∃ f, f ≤ i ∧ Fst D R f ∧ R f i := by
  intro i
  induction i using Nat.strongRecOn with
  | _ i ih =>
    intro hi
    by_cases h : Fst D R i
    · exact ⟨i, Nat.le_refl _, h, hr i⟩
    · have : ∃ j, j < i ∧ D j ∧ R j i := by
        refine byContradiction fun hn => h ⟨hi, fun j hj hD hR => hn ⟨j, hj, hD, hR⟩⟩
      obtain ⟨j, hj, hD, hR⟩ := this
      obtain ⟨f, h1, h2, h3⟩ := ih j hj hD
      exact ⟨f, by omega, h2, ht _ _ _ h3 hR⟩
theorem first_eq (hs : ∀ i j, R i j → R j i) (ht : ∀ i j k, R i j → R j k → R i k) {f g i : Nat} (hf : Fst D R f) (hg : Fst D R g) (h1 : R f i) (h2 : R g i) : f = g := by
  rcases Nat.lt_trichotomy f g with h | h | h
  · exact (hg.2 f h hf.1 (ht _ _ _ h1 (hs _ _ h2))).elim
  · exact h
  · exact (hf.2 g h hg.1 (ht _ _ _ h2 (hs _ _ h1))).elim
/-- what a blob says of the pixels of f's component before k, of which there is one -/
structure BSpec (D : Nat → Prop) (R : Nat → Nat → Prop) (W f k : Nat) (b : Bl) : Prop where
  fx : b.fx = ((f % W : Nat) : Int)
  fy : b.fy = ((f / W : Nat) : Int)
  y : b.y = ((f / W : Nat) : Int)
  all : ∀ i : Nat, i < k → D i → R f i → b.x ≤ ((i % W : Nat) : Int) ∧ ((i % W : Nat) : Int) < b.x + b.w ∧ ((i / W : Nat) : Int) < b.y + b.h
  left : ∃ i : Nat, i < k ∧ D i ∧ R f i ∧ ((i % W : Nat) : Int) = b.x
  right : ∃ i : Nat, i < k ∧ D i ∧ R f i ∧ ((i % W : Nat) : Int) + 1 = b.x + b.w
  low : ∃ i : Nat, i < k ∧ D i ∧ R f i ∧ ((i / W : Nat) : Int) + 1 = b.y + b.h
  area : b.area = (cnt D R f k : Int)
theorem BSpec.skip {W f k : Nat} {b : Bl} (h : BSpec D R W f k b) (hk : ¬ (D k ∧ R f k)) : BSpec D R W f (k + 1) b where
  fx := h.fx
  fy := h.fy
  y := h.y
  all i hi h1 h2 := h.all i (by have : i ≠ k := fun e => hk (e ▸ ⟨h1, h2⟩); omega) h1 h2
  left := let ⟨i, h1, h2⟩ := h.left; ⟨i, by omega, h2⟩
  right := let ⟨i, h1, h2⟩ := h.right; ⟨i, by omega, h2⟩
  low := let ⟨i, h1, h2⟩ := h.low; ⟨i, by omega, h2⟩
  area := by rw [cnt, if_neg hk]; exact h.area
theorem BSpec.add {W f k : Nat} {b : Bl} (h : BSpec D R W f k b) (hD : D k) (hR : R f k) (hfk : f / W ≤ k / W) : BSpec D R W f (k + 1) (b.add ((k % W : Nat) : Int) ((k / W : Nat) : Int)) where
  fx := h.fx
  fy := h.fy
  y := h.y
  all i hi h1 h2 := by
    simp only [Bl.add]
    by_cases e : i = k
    · subst e; omega
    · have := h.all i (by omega) h1 h2; omega
  left := by
    simp only [Bl.add]
    by_cases e : b.x ≤ ((k % W : Nat) : Int)
    · obtain ⟨i, h1, h2, h3, h4⟩ := h.left; exact ⟨i, by omega, h2, h3, by omega⟩
    · exact ⟨k, by omega, hD, hR, by omega⟩
  right := by
    simp only [Bl.add]
    by_cases e : ((k % W : Nat) : Int) + 1 ≤ b.x + b.w
    · obtain ⟨i, h1, h2, h3, h4⟩ := h.right; exact ⟨i, by omega, h2, h3, by omega⟩
    · exact ⟨k, by omega, hD, hR, by omega⟩
  low := by
    simp only [Bl.add]
    by_cases e : ((k / W : Nat) : Int) + 1 ≤ b.y + b.h
    · obtain ⟨i, h1, h2, h3, h4⟩ := h.low; exact ⟨i, by omega, h2, h3, by omega⟩
    · exact ⟨k, by omega, hD, hR, by omega⟩
  area := by
    rw [cnt, if_pos ⟨hD, hR⟩, Bl.add, h.area]; simp
/-- none before its first pixel -/
theorem cnt_zero (hs : ∀ i j, R i j → R j i) {f : Nat} (h : Fst D R f) : ∀ k, k ≤ f → cnt D R f k = 0
  | 0, _ => rfl
  | k + 1, hk => by rw [cnt, if_neg (fun e => h.2 k (by omega) e.1 (hs _ _ e.2)), cnt_zero hs h k (by omega)]
theorem BSpec.new (hr : ∀ i, R i i) (hs : ∀ i j, R i j → R j i) {W k : Nat} (h : Fst D R k) : BSpec D R W k (k + 1) (Bl.add ⟨((k % W : Nat) : Int), ((k / W : Nat) : Int), 1, 1, 0, ((k % W : Nat) : Int), ((k / W : Nat) : Int)⟩ ((k % W : Nat) : Int) ((k / W : Nat) : Int)) where
  fx := rfl
  fy := rfl
  y := rfl
  all i hi h1 h2 := by
    simp only [Bl.add]
    by_cases e : i = k
    · subst e; omega
    · exact (h.2 i (by omega) h1 (hs _ _ h2)).elim
  left := ⟨k, by omega, h.1, hr k, by simp [Bl.add]⟩
  right := ⟨k, by omega, h.1, hr k, by simp only [Bl.add]; omega⟩
  low := ⟨k, by omega, h.1, hr k, by simp only [Bl.add]; omega⟩
  area := by rw [cnt, if_pos ⟨h.1, hr k⟩, cnt_zero hs h k (Nat.le_refl _)]; simp [Bl.add]
theorem cnt_le (f k : Nat) : cnt D R f k ≤ k := by
  induction k with
  | zero => exact Nat.le_refl _
  | succ k ih => rw [cnt]; split <;> omega
theorem Fst.le (hs : ∀ i j, R i j → R j i) {f i : Nat} (h : Fst D R f) (hD : D i) (hR : R f i) : f ≤ i := Nat.le_of_not_lt fun hlt => h.2 i hlt hD (hs _ _ hR)
theorem BSpec.small (hs : ∀ i j, R i j → R j i) {W f k : Nat} {b : Bl} (h : BSpec D R W f k b) (hf : Fst D R f) (hfk : f < k) (hk : k ≤ 4194304) : b.small := by
  obtain ⟨i1, a1, a2, a3, a4⟩ := h.left
  obtain ⟨i3, c1, c2, c3, c4⟩ := h.right
  obtain ⟨i5, e1, e2, e3, e4⟩ := h.low
  have p1 := h.all i1 a1 a2 a3
  have y1 := h.y
  have ar := h.area
  have hc := cnt_le (D := D) (R := R) f k
  have m1 := Nat.mod_le i1 W
  have m3 := Nat.mod_le i3 W
  have d5 := Nat.div_le_self i5 W
  have d0 := Nat.div_le_self f W
  have l5 := Nat.div_le_div_right (c := W) (hf.le hs e2 e3)
  unfold Bl.small
  generalize f / W = y0 at *
  generalize i1 % W = z1 at *
  generalize i1 / W = z2 at *
  generalize i3 % W = z3 at *
  generalize i5 / W = z5 at *
  omega
/-- such a blob is determined -/
theorem BSpec.eq {W f k : Nat} {b c : Bl} (h : BSpec D R W f k b) (h' : BSpec D R W f k c) : b = c := by
  obtain ⟨i1, a1, a2, a3, a4⟩ := h.left
  obtain ⟨i2, b1, b2, b3, b4⟩ := h'.left
  obtain ⟨i3, c1, c2, c3, c4⟩ := h.right
  obtain ⟨i4, d1, d2, d3, d4⟩ := h'.right
  obtain ⟨i5, e1, e2, e3, e4⟩ := h.low
  obtain ⟨i6, f1, f2, f3, f4⟩ := h'.low
  have p1 := h'.all i1 a1 a2 a3
  have p2 := h.all i2 b1 b2 b3
  have p3 := h'.all i3 c1 c2 c3
  have p4 := h.all i4 d1 d2 d3
  have p5 := h'.all i5 e1 e2 e3
  have p6 := h.all i6 f1 f2 f3
  have y1 := h.y; have y2 := h'.y
  have hx : b.x = c.x := by omega
  have hw : b.w = c.w := by omega
  have hh : b.h = c.h := by omega
  cases b; cases c
  simp only [Bl.mk.injEq]
  exact ⟨hx, y1.trans y2.symm, hw, hh, h.area.trans h'.area.symm, h.fx.trans h'.fx.symm, h.fy.trans h'.fy.symm⟩
/-- the answer of Label -/
structure Labelled (D : Nat → Prop) (R : Nat → Nat → Prop) (W n : Nat) (lab : List Int) (bl : List Bl) : Prop where
  len : lab.length = n
  off : ∀ i : Nat, i < n → ¬ D i → lab[i]? = some (-1)
  on : ∀ i : Nat, i < n → D i → ∃ f, f ≤ i ∧ Fst D R f ∧ R f i ∧ lab[i]? = some (nf D R f : Int)
  num : bl.length = nf D R n
  blob : ∀ f, f < n → Fst D R f → ∃ b, bl[nf D R f]? = some b ∧ BSpec D R W f n b
theorem Labelled.eq (hs : ∀ i j, R i j → R j i) (ht : ∀ i j k, R i j → R j k → R i k) {W n : Nat} {lab lab' : List Int} {bl bl' : List Bl} (h : Labelled D R W n lab bl) (h' : Labelled D R W n lab' bl') : lab = lab' ∧ bl = bl' := by
  constructor
  · apply List.ext_getElem?
    intro i
    by_cases hi : i < n
    · by_cases hD : D i
      · obtain ⟨f, _, f2, f3, f4⟩ := h.on i hi hD
        obtain ⟨g, _, g2, g3, g4⟩ := h'.on i hi hD
        have := first_eq hs ht f2 g2 f3 g3
        subst this
        rw [f4, g4]
      · rw [h.off i hi hD, h'.off i hi hD]
    · rw [List.getElem?_eq_none (by have := h.len; omega), List.getElem?_eq_none (by have := h'.len; omega)]
  · apply List.ext_getElem?
    intro q
    by_cases hq : q < nf D R n
    · obtain ⟨f, h1, h2, rfl⟩ := nf_surj hq
      obtain ⟨b, b1, b2⟩ := h.blob f h1 h2
      obtain ⟨c, c1, c2⟩ := h'.blob f h1 h2
      rw [b1, c1, b2.eq c2]
    · rw [List.getElem?_eq_none (by have := h.num; omega), List.getElem?_eq_none (by have := h'.num; omega)]
end
end Go.Proofs.Ytnnmebpahickhaa
