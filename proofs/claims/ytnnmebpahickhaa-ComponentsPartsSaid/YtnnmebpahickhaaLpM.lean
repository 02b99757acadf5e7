/- law 38, Parts: neighbours have one label; the sides that pixels touch. Plain mathematics. -/
import Derived.Test.YtnnmebpahickhaaLaw38b
namespace Go.Proofs.Ytnnmebpahickhaa
set_option linter.unusedSimpArgs false
set_option linter.unusedVariables false
open Go.RowKit Sym Uf Classical

theorem lab_same {W n : Nat} {eight : Bool} {dk : List Bool} {lab : List Int} {bl : List Bl} (h : Labelled (DD dk true) (RR W eight dk true) W n lab bl) (hn : n = dk.length) {i j : Nat} (hi : dk[i]? = some true) (hj : dk[j]? = some true) (hb : Back W eight j i) : lab[j]? = lab[i]? := by
  have li : i < n := by rw [hn]; exact (List.getElem?_eq_some_iff.1 hi).1
  have lj : j < n := by rw [hn]; exact (List.getElem?_eq_some_iff.1 hj).1
  obtain ⟨f, _, f2, f3, f4⟩ := h.on i li hi
  obtain ⟨g, _, g2, g3, g4⟩ := h.on j lj hj
  have hR : RR W eight dk true j i := .edge ⟨by omega, hj, hi, hb⟩
  have : f = g := first_eq (R := RR W eight dk true) (fun _ _ => Cl.symm) (fun _ _ _ => Cl.trans) f2 g2 (Cl.trans f3 (Cl.symm hR)) g3
  rw [f4, g4, this]
theorem back_right {W i : Nat} (eight : Bool) (h : i % W + 1 < W) : Back W eight (i + 1) i := by
  obtain ⟨e1, e2⟩ := divmod_of (W := W) (j := i + 1) (y := i / W) (x := i % W + 1) (by have := Nat.div_add_mod' i W; omega) h
  exact .inl (.inl ⟨by omega, rfl⟩)
theorem back_below {W i : Nat} (eight : Bool) (h : 0 < W) : Back W eight (i + W) i := by
  refine .inl (.inr ⟨?_, rfl⟩)
  rw [Nat.add_div_right _ h]; exact Nat.succ_pos _
theorem back_bl {W i : Nat} (hW : 0 < W) (h : 0 < i % W) : Back W true (i + W - 1) i := by
  have hm := Nat.mod_lt i hW
  obtain ⟨e1, e2⟩ := divmod_of (W := W) (j := i + W - 1) (y := i / W + 1) (x := i % W - 1) (by have := Nat.div_add_mod' i W; rw [Nat.succ_mul]; omega) (by omega)
  exact .inr (.inr ⟨rfl, by rw [e1]; exact Nat.succ_pos _, by omega, by omega⟩)
theorem back_br {W i : Nat} (h : i % W + 1 < W) : Back W true (i + W + 1) i := by
  obtain ⟨e1, e2⟩ := divmod_of (W := W) (j := i + W + 1) (y := i / W + 1) (x := i % W + 1) (by have := Nat.div_add_mod' i W; rw [Nat.succ_mul]; omega) h
  exact .inr (.inl ⟨rfl, by rw [e1]; exact Nat.succ_pos _, by omega, rfl⟩)
/-- the sides of a box that a pixel touches -/
def sd (b : Bl) (x y : Int) : Nat := (((0 ||| if x = b.x then 1 else 0) ||| if y = b.y then 2 else 0) ||| if x = b.x + b.w - 1 then 4 else 0) ||| if y = b.y + b.h - 1 then 8 else 0
theorem sd_lt (b : Bl) (x y : Int) : sd b x y < 16 := by
  unfold sd
  split <;> split <;> split <;> split <;> decide
theorem or_lt16 {a b : Nat} (ha : a < 16) (hb : b < 16) : a ||| b < 16 := Nat.or_lt_two_pow (n := 4) ha hb
theorem bits_or16 : ∀ a, a < 16 → ∀ b, b < 16 → bits .or .i64 ((a : Nat) : Int) ((b : Nat) : Int) = (((a ||| b : Nat)) : Int) := by decide
/-- the sides that the component's pixels before k touch -/
noncomputable def tch (D : Nat → Prop) (R : Nat → Nat → Prop) (W : Nat) (b : Bl) (f : Nat) : Nat → Nat
  | 0 => 0
  | k + 1 => if D k ∧ R f k then tch D R W b f k ||| sd b ((k % W : Nat) : Int) ((k / W : Nat) : Int) else tch D R W b f k
theorem tch_lt (D : Nat → Prop) (R : Nat → Nat → Prop) (W : Nat) (b : Bl) (f : Nat) : ∀ k, tch D R W b f k < 16
  | 0 => by simp [tch]
  | k + 1 => by
    rw [tch]; split
    · exact or_lt16 (tch_lt D R W b f k) (sd_lt _ _ _)
    · exact tch_lt D R W b f k
theorem tch_bit {D : Nat → Prop} {R : Nat → Nat → Prop} {W : Nat} {b : Bl} {f : Nat} (m : Nat) : ∀ k i, i < k → D i → R f i → (sd b ((i % W : Nat) : Int) ((i / W : Nat) : Int)).testBit m = true → (tch D R W b f k).testBit m = true
  | 0, i, h, _, _, _ => by omega
  | k + 1, i, h, hD, hR, hb => by
    rw [tch]
    by_cases e : i = k
    · subst e; rw [if_pos ⟨hD, hR⟩, Nat.testBit_or, hb, Bool.or_true]
    · have := tch_bit m k i (by omega) hD hR hb
      split
      · rw [Nat.testBit_or, this, Bool.true_or]
      · exact this
theorem all15 : ∀ a, a < 16 → a.testBit 0 = true → a.testBit 1 = true → a.testBit 2 = true → a.testBit 3 = true → a = 15 := by decide
theorem sd0 {b : Bl} {x y : Int} (h : x = b.x) : (sd b x y).testBit 0 = true := by
  unfold sd; rw [if_pos h]; split <;> split <;> split <;> decide
theorem sd1 {b : Bl} {x y : Int} (h : y = b.y) : (sd b x y).testBit 1 = true := by
  unfold sd; rw [if_pos h]; split <;> split <;> split <;> decide
theorem sd2 {b : Bl} {x y : Int} (h : x = b.x + b.w - 1) : (sd b x y).testBit 2 = true := by
  unfold sd; rw [if_pos h]; split <;> split <;> split <;> decide
theorem sd3 {b : Bl} {x y : Int} (h : y = b.y + b.h - 1) : (sd b x y).testBit 3 = true := by
  unfold sd; rw [if_pos h]; split <;> split <;> split <;> decide
theorem tch_all {D : Nat → Prop} {R : Nat → Nat → Prop} {W n f : Nat} {b : Bl} (hB : BSpec D R W f n b) (hf : Fst D R f) (hfn : f < n) (hr : ∀ i, R i i) : tch D R W b f n = 15 := by
  obtain ⟨i1, a1, a2, a3, a4⟩ := hB.left
  obtain ⟨i3, c1, c2, c3, c4⟩ := hB.right
  obtain ⟨i5, e1, e2, e3, e4⟩ := hB.low
  refine all15 _ (tch_lt D R W b f n) (tch_bit 0 n i1 a1 a2 a3 (sd0 a4)) (tch_bit 1 n f hfn hf.1 (hr f) (sd1 hB.y.symm)) (tch_bit 2 n i3 c1 c2 c3 (sd2 (by omega))) (tch_bit 3 n i5 e1 e2 e3 (sd3 (by omega)))
/-- what Parts counts, ahead of pixel i -/
structure PC (D : Nat → Prop) (R : Nat → Nat → Prop) (W n i : Nat) (bl : List Bl) (ar tc : List Int) : Prop where
  la : ar.length = bl.length
  lt : tc.length = bl.length
  at_ : ∀ f, f < n → Fst D R f → ∀ b, bl[nf D R f]? = some b → ar[nf D R f]? = some (cnt D R f i : Int) ∧ tc[nf D R f]? = some (tch D R W b f i : Int)
theorem PC.start {D : Nat → Prop} {R : Nat → Nat → Prop} {W n : Nat} {bl : List Bl} : PC D R W n 0 bl (List.replicate bl.length 0) (List.replicate bl.length 0) := by
  refine ⟨by simp, by simp, fun f hf h1 b hb => ?_⟩
  have := (List.getElem?_eq_some_iff.1 hb).1
  simp [this, cnt, tch]
section
variable {D : Nat → Prop} {R : Nat → Nat → Prop} {W n i : Nat} {bl : List Bl} {ar tc : List Int}
theorem PC.light (h : PC D R W n i bl ar tc) (hD : ¬ D i) : PC D R W n (i + 1) bl ar tc :=
  ⟨h.la, h.lt, fun f hf h1 b hb => by rw [cnt, tch, if_neg (fun e => hD e.1), if_neg (fun e => hD e.1)]; exact h.at_ f hf h1 b hb⟩
theorem PC.dark (h : PC D R W n i bl ar tc) (hs : ∀ i j, R i j → R j i) (ht : ∀ i j k, R i j → R j k → R i k) (hD : D i) {f : Nat} (hfn : f < n) (hf : Fst D R f) (hR : R f i) {b : Bl} (hb : bl[nf D R f]? = some b) :
    PC D R W n (i + 1) bl (ar.set (nf D R f) ((cnt D R f i : Int) + 1)) (tc.set (nf D R f) ((tch D R W b f i ||| sd b ((i % W : Nat) : Int) ((i / W : Nat) : Int) : Nat) : Int)) := by
  refine ⟨by simpa using h.la, by simpa using h.lt, fun g hg g1 c hc => ?_⟩
  by_cases e : g = f
  · subst e
    rw [hb] at hc; cases hc
    have hl := (List.getElem?_eq_some_iff.1 hb).1
    rw [List.getElem?_set_self (by rw [h.la]; exact hl), List.getElem?_set_self (by rw [h.lt]; exact hl), cnt, tch, if_pos ⟨hD, hR⟩, if_pos ⟨hD, hR⟩]
    exact ⟨by simp, rfl⟩
  · have hne : nf D R f ≠ nf D R g := fun e' => e (nf_inj g1 hf e'.symm)
    have hno : ¬ (D i ∧ R g i) := fun x => e (first_eq hs ht g1 hf x.2 hR)
    rw [List.getElem?_set_ne hne, List.getElem?_set_ne hne, cnt, tch, if_neg hno, if_neg hno]
    exact h.at_ g hg g1 c hc
end
/-- the first pixel of a component comes first -/
theorem cnt0_first {D : Nat → Prop} {R : Nat → Nat → Prop} {f i : Nat} (hs : ∀ i j, R i j → R j i) (hr : ∀ i, R i i) (hf : Fst D R f) (hD : D i) (hR : R f i) (h : cnt D R f i = 0) : i = f := by
  have hle := hf.le hs hD hR
  refine Decidable.byContradiction fun hne => ?_
  have key : ∀ k, f < k → 0 < cnt D R f k := by
    intro k
    induction k with
    | zero => omega
    | succ k ih =>
      intro hk
      rw [cnt]
      by_cases e : f = k
      · subst e; rw [if_pos ⟨hf.1, hr f⟩]; omega
      · have := ih (by omega); omega
  have := key i (by omega)
  omega
end Go.Proofs.Ytnnmebpahickhaa
