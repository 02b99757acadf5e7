
/- reference of components: what parts keeps; plain mathematics. -/
import Derived.Test.YtnnmebpahickhaaRBlob
namespace Go.Proofs.Ytnnmebpahickhaa
set_option linter.unusedSimpArgs false
set_option linter.unusedVariables false
open Go.RowKit Sym Uf

/-- ahead of pixel i: the components that begin before it have their numbers -/
structure PInv (D : Nat → Prop) (R : Nat → Nat → Prop) (W n i : Nat) (lab : List Int) (bl : List Bl) : Prop where
  len : lab.length = n
  off : ∀ j : Nat, j < n → ¬ D j → lab[j]? = some (-1)
  on : ∀ j f : Nat, j < n → D j → Fst D R f → R f j → f < i → lab[j]? = some (nf D R f : Int)
  new : ∀ j f : Nat, j < n → D j → Fst D R f → R f j → i ≤ f → lab[j]? = some (-1)
  num : bl.length = nf D R i
  blob : ∀ f, f < i → Fst D R f → ∃ b, bl[nf D R f]? = some b ∧ BSpec D R W f n b
section
variable {D : Nat → Prop} {R : Nat → Nat → Prop} {W n i : Nat} {lab : List Int} {bl : List Bl}
theorem PInv.start (D : Nat → Prop) (R : Nat → Nat → Prop) (W n : Nat) : PInv D R W n 0 (List.replicate n (-1)) [] where
  len := by simp
  off j hj _ := by simp [hj]
  on j f _ _ _ _ h := by omega
  new j f hj _ _ _ _ := by simp [hj]
  num := rfl
  blob f h := by omega
theorem PInv.skip (h : PInv D R W n i lab bl) (hi : i < n) (hR : ∀ i, R i i) (hno : ¬ (D i ∧ ∃ z, lab[i]? = some z ∧ z < 0)) : PInv D R W n (i + 1) lab bl := by
  have hF : ¬ Fst D R i := fun hf => hno ⟨hf.1, -1, h.new i i hi hf.1 hf (hR i) (Nat.le_refl _), by decide⟩
  refine ⟨h.len, h.off, fun j f hj hD hf hr hlt => h.on j f hj hD hf hr (by have : f ≠ i := fun e => hF (e ▸ hf); omega), fun j f hj hD hf hr hle => h.new j f hj hD hf hr (by omega), by rw [nf_succ_neg hF]; exact h.num, fun f hlt hf => h.blob f (by have : f ≠ i := fun e => hF (e ▸ hf); omega) hf⟩
theorem PInv.first (h : PInv D R W n i lab bl) (hi : i < n) (hr : ∀ i, R i i) (ht : ∀ i j k, R i j → R j k → R i k) (hD : D i) {z : Int} (hz : lab[i]? = some z) (h0 : z < 0) : Fst D R i := by
  obtain ⟨f, f1, f2, f3⟩ := first_of (D := D) hr ht i hD
  by_cases e : f = i
  · exact e ▸ f2
  · have := h.on i f hi hD f2 f3 (by omega)
    rw [hz] at this; cases this; omega
theorem PInv.next (h : PInv D R W n i lab bl) (hs : ∀ i j, R i j → R j i) (ht : ∀ i j k, R i j → R j k → R i k) (hf : Fst D R i) {lab' : List Int} (hlen : lab'.length = n) (hin : ∀ j : Nat, j < n → D j → R i j → lab'[j]? = some (nf D R i : Int)) (hout : ∀ j : Nat, j < n → ¬ (D j ∧ R i j) → lab'[j]? = lab[j]?) {b : Bl} (hb : BSpec D R W i n b) :
    PInv D R W n (i + 1) lab' (bl ++ [b]) := by
  refine ⟨hlen, fun j hj hD => by rw [hout j hj (fun e => hD e.1)]; exact h.off j hj hD, fun j f hj hD hf' hr hlt => ?_, fun j f hj hD hf' hr hle => ?_, by rw [List.length_append, nf_succ_pos hf, h.num]; rfl, fun f hlt hf' => ?_⟩
  · by_cases e : f = i
    · subst e; exact hin j hj hD hr
    · rw [hout j hj (fun x => e (first_eq hs ht hf' hf hr x.2))]; exact h.on j f hj hD hf' hr (by omega)
  · rw [hout j hj (fun x => by have := first_eq hs ht hf' hf hr x.2; omega)]; exact h.new j f hj hD hf' hr (by omega)
  · by_cases e : f = i
    · subst e; exact ⟨b, by rw [← h.num, List.getElem?_append_right (Nat.le_refl _)]; simp, hb⟩
    · obtain ⟨c, c1, c2⟩ := h.blob f (by omega) hf'
      exact ⟨c, by rw [List.getElem?_append_left (List.getElem?_eq_some_iff.1 c1).1]; exact c1, c2⟩
theorem PInv.labelled (h : PInv D R W n n lab bl) (hr : ∀ i, R i i) (ht : ∀ i j k, R i j → R j k → R i k) : Labelled D R W n lab bl where
  len := h.len
  off := h.off
  on i hi hD := by
    obtain ⟨f, f1, f2, f3⟩ := first_of (D := D) hr ht i hD
    exact ⟨f, f1, f2, f3, h.on i f hi hD f2 f3 (by omega)⟩
  num := h.num
  blob := h.blob
end
/-- the number of members, by a list of them -/
theorem cnt_list {D : Nat → Prop} {R : Nat → Nat → Prop} {f : Nat} : ∀ (n : Nat) (l : List Nat), l.Nodup → (∀ j, j ∈ l ↔ j < n ∧ D j ∧ R f j) → cnt D R f n = l.length := by
  intro n
  induction n with
  | zero => intro l _ h; cases l with
    | nil => rfl
    | cons a l => have := (h a).1 (by simp); omega
  | succ n ih =>
    intro l hl h
    rw [cnt]
    by_cases hn : D n ∧ R f n
    · rw [if_pos hn]
      have hm : n ∈ l := (h n).2 ⟨by omega, hn⟩
      rw [ih (l.erase n) (hl.erase n) (fun j => by
        rw [hl.mem_erase_iff, h j]
        constructor
        · rintro ⟨h1, h2, h3⟩; exact ⟨by omega, h3⟩
        · rintro ⟨h1, h3⟩; exact ⟨by omega, by omega, h3⟩), List.length_erase_of_mem hm]
      have := List.length_pos_of_mem hm; omega
    · rw [if_neg hn, Nat.add_zero]
      exact ih l hl fun j => by
        rw [h j]
        constructor
        · rintro ⟨h1, h3⟩; exact ⟨by have : j ≠ n := fun e => hn (e ▸ h3); omega, h3⟩
        · rintro ⟨h1, h3⟩; exact ⟨by omega, h3⟩
/-- the blob of a component that was filled -/
theorem Bx.spec {D : Nat → Prop} {R : Nat → Nat → Prop} {W Ht n f : Nat} {pl : List Nat} {b : Bl} (hl : pl.Nodup) (hm : ∀ j, j ∈ pl ↔ j < n ∧ D j ∧ R f j) (hs : ∀ i j, R i j → R j i) (hr : ∀ i, R i i) (hf : Fst D R f) (hfn : f < n) (hB : Bx W Ht pl pl.length b.x b.y (b.x + b.w - 1) (b.y + b.h - 1)) (ha : b.area = pl.length) (hfx : b.fx = ((f % W : Nat) : Int)) (hfy : b.fy = ((f / W : Nat) : Int)) : BSpec D R W f n b := by
  have hfm : f ∈ pl := (hm f).2 ⟨hfn, hf.1, hr f⟩
  have h0 : 0 < pl.length := List.length_pos_of_mem hfm
  have hall : ∀ p ∈ pl, b.x ≤ ((p % W : Nat) : Int) ∧ ((p % W : Nat) : Int) ≤ b.x + b.w - 1 ∧ b.y ≤ ((p / W : Nat) : Int) ∧ ((p / W : Nat) : Int) ≤ b.y + b.h - 1 := fun p hp => by
    obtain ⟨j, hj, e⟩ := List.mem_iff_getElem.1 hp
    exact hB.all j p hj (by rw [List.getElem?_eq_getElem hj, e])
  obtain ⟨p1, m1, e1⟩ := hB.l h0
  obtain ⟨p2, m2, e2⟩ := hB.r h0
  obtain ⟨p3, m3, e3⟩ := hB.t h0
  obtain ⟨p4, m4, e4⟩ := hB.b h0
  have k1 := (hm p1).1 m1
  have k2 := (hm p2).1 m2
  have k3 := (hm p3).1 m3
  have k4 := (hm p4).1 m4
  have hle : f / W ≤ p3 / W := Nat.div_le_div_right (hf.le hs k3.2.1 k3.2.2)
  have hy : b.y = ((f / W : Nat) : Int) := by have := (hall f hfm).2.2.1; omega
  refine ⟨hfx, hfy, hy, fun i hi hD hR => ?_, ⟨p1, k1.1, k1.2.1, k1.2.2, e1⟩, ⟨p2, k2.1, k2.2.1, k2.2.2, by omega⟩, ⟨p4, k4.1, k4.2.1, k4.2.2, by omega⟩, by rw [ha, cnt_list n pl hl hm]⟩
  have := hall i ((hm i).2 ⟨hi, hD, hR⟩)
  omega
end Go.Proofs.Ytnnmebpahickhaa
