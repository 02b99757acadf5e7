/- Texts of the claim, laid together: Ex38M. -/
import Derived.Test.YtnnmebpahickhaaComponentsSymmetricTopMg25
/- The examples of chapter 38: the components of two small bitmaps. -/
namespace Go.Proofs.Ytnnmebpahickhaa
set_option linter.unusedSimpArgs false
set_option linter.unusedVariables false
open Go.RowKit Sym Uf

instance (W : Nat) (eight : Bool) (i j : Nat) : Decidable (Back W eight i j) := by unfold Back; exact inferInstance
instance (W : Nat) (eight : Bool) (dk : List Bool) (dark : Bool) (k i j : Nat) : Decidable (Ed W eight dk dark k i j) := by unfold Ed; exact inferInstance
instance (W Ht j : Nat) : Decidable (Bord W Ht j) := by unfold Bord; exact inferInstance
/-- rep tells the first pixel of each component; rank and par tell a way to it -/
structure Rep (W : Nat) (eight : Bool) (dk : List Bool) (dark : Bool) (rep par rank : List Nat) : Prop where
  ed : ∀ i, i < dk.length → ∀ j, j < dk.length → Ed W eight dk dark dk.length i j → rep.getD i 0 = rep.getD j 0
  on : ∀ i, i < dk.length → dk[i]? = some dark → rep.getD i 0 ≤ i ∧ dk[rep.getD i 0]? = some dark ∧ rep.getD (rep.getD i 0) 0 = rep.getD i 0
  way : ∀ i, i < dk.length → dk[i]? = some dark → rep.getD i 0 ≠ i → (Ed W eight dk dark dk.length i (par.getD i 0) ∨ Ed W eight dk dark dk.length (par.getD i 0) i) ∧ rep.getD (par.getD i 0) 0 = rep.getD i 0 ∧ rank.getD (par.getD i 0) 0 < rank.getD i 0
section
variable {W : Nat} {eight : Bool} {dk : List Bool} {dark : Bool} {rep par rank : List Nat}
theorem Rep.lt (_h : Rep W eight dk dark rep par rank) {i : Nat} (hi : DD dk dark i) : i < dk.length := (List.getElem?_eq_some_iff.1 hi).1
theorem Rep.to (h : Rep W eight dk dark rep par rank) {i j : Nat} (hR : RR W eight dk dark i j) : rep.getD i 0 = rep.getD j 0 := by
  induction hR with
  | refl i => rfl
  | edge e => exact h.ed _ (List.getElem?_eq_some_iff.1 e.2.1).1 _ (List.getElem?_eq_some_iff.1 e.2.2.1).1 e
  | symm _ ih => exact ih.symm
  | trans _ _ ih1 ih2 => exact ih1.trans ih2
theorem Rep.root (h : Rep W eight dk dark rep par rank) : ∀ (n i : Nat), rank.getD i 0 = n → DD dk dark i → RR W eight dk dark i (rep.getD i 0) := by
  intro n
  induction n using Nat.strongRecOn with
  | _ n ih =>
    intro i hn hi
    by_cases e : rep.getD i 0 = i
    · rw [e]; exact Cl.refl i
    · obtain ⟨h1, h2, h3⟩ := h.way i (h.lt hi) hi e
      have hp : DD dk dark (par.getD i 0) := by
        rcases h1 with h1 | h1
        · exact h1.2.2.1
        · exact h1.2.1
      have := ih _ (by omega) (par.getD i 0) rfl hp
      rw [h2] at this
      refine Cl.trans ?_ this
      rcases h1 with h1 | h1
      · exact .edge h1
      · exact .symm (.edge h1)
theorem Rep.iff (h : Rep W eight dk dark rep par rank) {i j : Nat} (hi : DD dk dark i) (hj : DD dk dark j) : RR W eight dk dark i j ↔ rep.getD i 0 = rep.getD j 0 := by
  refine ⟨h.to, fun e => ?_⟩
  have h1 := h.root _ i rfl hi
  have h2 := h.root _ j rfl hj
  rw [e] at h1
  exact Cl.trans h1 (Cl.symm h2)
theorem Rep.fst (h : Rep W eight dk dark rep par rank) (i : Nat) : Fst (DD dk dark) (RR W eight dk dark) i ↔ dk[i]? = some dark ∧ rep.getD i 0 = i := by
  constructor
  · rintro ⟨h1, h2⟩
    refine ⟨h1, Decidable.byContradiction fun e => ?_⟩
    obtain ⟨k1, k2, k3⟩ := h.on i (h.lt h1) h1
    exact h2 (rep.getD i 0) (by omega) k2 ((h.iff k2 h1).2 k3)
  · rintro ⟨h1, h2⟩
    refine ⟨h1, fun j hj hD hR => ?_⟩
    have := h.to hR
    have := (h.on j (h.lt hD) hD).1
    omega
theorem Rep.nf (h : Rep W eight dk dark rep par rank) : ∀ k, nf (DD dk dark) (RR W eight dk dark) k = ((List.range k).filter fun i => decide (dk[i]? = some dark ∧ rep.getD i 0 = i)).length
  | 0 => rfl
  | k + 1 => by
    rw [List.range_succ, List.filter_append, List.length_append, ← Rep.nf h k]
    by_cases e : Fst (DD dk dark) (RR W eight dk dark) k
    · rw [nf_succ_pos e]; simp only [List.filter_cons, decide_eq_true_eq, if_pos ((h.fst k).1 e)]; rfl
    · rw [nf_succ_neg e]
      have : ¬ (dk[k]? = some dark ∧ rep.getD k 0 = k) := fun x => e ((h.fst k).2 x)
      simp only [List.filter_cons, decide_eq_true_eq, if_neg this]; rfl
theorem Rep.cnt (h : Rep W eight dk dark rep par rank) {f : Nat} (hf : DD dk dark f) : ∀ k, cnt (DD dk dark) (RR W eight dk dark) f k = ((List.range k).filter fun i => decide (dk[i]? = some dark ∧ rep.getD f 0 = rep.getD i 0)).length
  | 0 => rfl
  | k + 1 => by
    rw [List.range_succ, List.filter_append, List.length_append, ← Rep.cnt h hf k]
    have e : (DD dk dark k ∧ RR W eight dk dark f k) ↔ (dk[k]? = some dark ∧ rep.getD f 0 = rep.getD k 0) := ⟨fun x => ⟨x.1, h.to x.2⟩, fun x => ⟨x.1, (h.iff hf x.1).2 x.2⟩⟩
    by_cases c : dk[k]? = some dark ∧ rep.getD f 0 = rep.getD k 0
    · simp only [Go.Proofs.Ytnnmebpahickhaa.cnt, if_pos (e.2 c), List.filter_cons, decide_eq_true_eq, if_pos c]; rfl
    · simp only [Go.Proofs.Ytnnmebpahickhaa.cnt, if_neg (fun x => c (e.1 x)), List.filter_cons, decide_eq_true_eq, if_neg c]; rfl
end
def cross : List Bool := [true, false, true, false, true, false, true, false, true]
def ring : List Bool := [true, true, true, true, false, true, true, true, true]
theorem bmp_cross : bmp ⟨#[49, 48, 49, 48, 49, 48, 49, 48, 49]⟩ = cross := by decide
theorem bmp_ring : bmp ⟨#[49, 49, 49, 49, 48, 49, 49, 49, 49]⟩ = ring := by decide
theorem bmp_full : bmp ⟨#[49, 49, 49, 49, 49, 49, 49, 49, 49]⟩ = List.replicate 9 true := by decide
theorem bmp_none : bmp ⟨#[48, 48, 48, 48, 48, 48, 48, 48, 48]⟩ = List.replicate 9 false := by decide
theorem ok33 : okMat 3 3 9 := by decide
theorem rep_cross8 : Rep 3 true cross true [0, 0, 0, 0, 0, 0, 0, 0, 0] [0, 0, 4, 0, 0, 0, 4, 0, 4] [0, 0, 2, 0, 1, 0, 2, 0, 2] := ⟨by decide, by decide, by decide⟩
theorem rep_cross4 : Rep 3 false cross true [0, 1, 2, 3, 4, 5, 6, 7, 8] [] [] := ⟨by decide, by decide, by decide⟩
theorem rep_ring8 : Rep 3 true ring true [0, 0, 0, 0, 0, 0, 0, 0, 0] [0, 0, 1, 0, 0, 2, 3, 6, 7] [0, 1, 2, 1, 0, 3, 2, 3, 4] := ⟨by decide, by decide, by decide⟩
theorem nf_cross8 : nf (DD cross true) (RR 3 true cross true) 9 = 1 := by rw [rep_cross8.nf]; decide
theorem nf_cross4 : nf (DD cross true) (RR 3 false cross true) 9 = 5 := by rw [rep_cross4.nf]; decide
theorem nf_ring8 : nf (DD ring true) (RR 3 true ring true) 9 = 1 := by rw [rep_ring8.nf]; decide
theorem hol_cross (i : Nat) : ¬ Hol 3 3 cross i := fun h => by
  have hi : i < 9 := (List.getElem?_eq_some_iff.1 h.1).1
  have hb : ∀ i, i < 9 → cross[i]? = some false → Bord 3 3 i := by decide
  exact h.2 i h.1 (Cl.refl i) (hb i hi h.1)
theorem light_ring {i : Nat} (h : DD ring false i) : i = 4 := by
  have hi : i < 9 := (List.getElem?_eq_some_iff.1 h).1
  have hb : ∀ i, i < 9 → ring[i]? = some false → i = 4 := by decide
  exact hb i hi h
theorem hol_ring : Hol 3 3 ring 4 := ⟨rfl, fun j hj _ => by rw [light_ring hj]; decide⟩
theorem nh_cross : nh 3 3 cross = 0 := by
  unfold nh
  rw [List.length_eq_zero_iff, List.eq_nil_iff_forall_not_mem]
  exact fun i hi => hol_cross i (hFst_mem.1 hi).2
theorem nh_ring : nh 3 3 ring = 1 := by
  have : nh 3 3 ring = [4].length := same_len (hFst_nodup 3 3 ring) (by simp) fun i => by
    rw [hFst_mem, List.mem_singleton]
    constructor
    · rintro ⟨h1, _⟩; exact light_ring h1.1
    · rintro rfl
      exact ⟨⟨rfl, fun j hj hD _ => by have := light_ring hD; omega⟩, hol_ring⟩
  rw [this]; rfl
theorem fill_ring : tab 9 (fillc 3 3 ring) = List.replicate 9 true := by
  refine (tab_eq (by simp) fun i hi => ?_).symm
  rcases dk_cases (dk := ring) (i := i) hi with h | h
  · rw [fillc_dark h]; exact List.getElem?_replicate_of_lt hi
  · obtain rfl := light_ring h
    have : fillc 3 3 ring 4 = true := by rw [fillc_light h]; exact @decide_eq_true _ (Classical.propDecidable _) hol_ring
    rw [this]; rfl
theorem blob_cross : BSpec (DD cross true) (RR 3 true cross true) 3 0 9 ⟨0, 0, 3, 3, 5, 0, 0⟩ where
  fx := rfl
  fy := rfl
  y := rfl
  all i hi _ _ := by simp only; omega
  left := ⟨0, by decide, by decide, Cl.refl 0, by decide⟩
  right := ⟨2, by decide, by decide, (rep_cross8.iff (by decide) (by decide)).2 (by decide), by decide⟩
  low := ⟨6, by decide, by decide, (rep_cross8.iff (by decide) (by decide)).2 (by decide), by decide⟩
  area := by rw [rep_cross8.cnt (by decide)]; decide
theorem blob_ring : BSpec (DD ring true) (RR 3 true ring true) 3 0 9 ⟨0, 0, 3, 3, 8, 0, 0⟩ where
  fx := rfl
  fy := rfl
  y := rfl
  all i hi _ _ := by simp only; omega
  left := ⟨0, by decide, by decide, Cl.refl 0, by decide⟩
  right := ⟨2, by decide, by decide, (rep_ring8.iff (by decide) (by decide)).2 (by decide), by decide⟩
  low := ⟨6, by decide, by decide, (rep_ring8.iff (by decide) (by decide)).2 (by decide), by decide⟩
  area := by rw [rep_ring8.cnt (by decide)]; decide
theorem lab_cross {lab : List Int} {bl : List Bl} (h : Labelled (DD cross true) (RR 3 true cross true) 3 9 lab bl) : bl = [⟨0, 0, 3, 3, 5, 0, 0⟩] := by
  have h1 := h.num
  rw [nf_cross8] at h1
  obtain ⟨b, rfl⟩ := List.length_eq_one_iff.1 h1
  obtain ⟨c, c1, c2⟩ := h.blob 0 (by decide) ((rep_cross8.fst 0).2 (by decide))
  have e : c = b := by
    have : nf (DD cross true) (RR 3 true cross true) 0 = 0 := rfl
    rw [this] at c1; simpa using c1.symm
  rw [← e, c2.eq blob_cross]
theorem desp_ring {lab : List Int} {bl : List Bl} (h : Labelled (DD ring true) (RR 3 true ring true) 3 9 lab bl) : tab 9 (despf ring lab bl 9) = List.replicate 9 false := by
  have h1 := h.num
  rw [nf_ring8] at h1
  obtain ⟨b, rfl⟩ := List.length_eq_one_iff.1 h1
  obtain ⟨c, c1, c2⟩ := h.blob 0 (by decide) ((rep_ring8.fst 0).2 (by decide))
  have e : c = b := by
    have : nf (DD ring true) (RR 3 true ring true) 0 = 0 := rfl
    rw [this] at c1; simpa using c1.symm
  have eb : b = ⟨0, 0, 3, 3, 8, 0, 0⟩ := by rw [← e, c2.eq blob_ring]
  refine (tab_eq (by simp) fun i hi => ?_).symm
  rcases dk_cases (dk := ring) (i := i) hi with hd | hd
  · obtain ⟨q, q1, q2⟩ := h.at hi hd
    rw [despf_on hd q1 q2]
    have : q = 0 := by simpa using q2
    subst this
    have e9 : decide ((9 : Int) ≤ ([b][0]).area) = false := by rw [show [b][0] = b from rfl, eb]; rfl
    rw [e9]; exact List.getElem?_replicate_of_lt hi
  · rw [despf_off hd]; exact List.getElem?_replicate_of_lt hi
end Go.Proofs.Ytnnmebpahickhaa
