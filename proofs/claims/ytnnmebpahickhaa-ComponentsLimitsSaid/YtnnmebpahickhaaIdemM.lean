/- Components of a bitmap from which whole components have been taken: plain mathematics. -/
import Derived.Test.YtnnmebpahickhaaEx38
namespace Go.Proofs.Ytnnmebpahickhaa
set_option linter.unusedSimpArgs false
set_option linter.unusedVariables false
open Go.RowKit Sym Uf

/-- joined in the whole, and in a part that holds whole components -/
theorem cl_part {E F : Nat → Nat → Prop} {S : Nat → Prop} (hS : ∀ i j, E i j → (S i ↔ S j)) (hF : ∀ i j, E i j → S i → S j → F i j) {i j : Nat} (h : Cl E i j) : (S i ↔ S j) ∧ (S i → Cl F i j) := by
  induction h with
  | refl i => exact ⟨Iff.rfl, fun _ => .refl i⟩
  | edge e => exact ⟨hS _ _ e, fun hi => .edge (hF _ _ e hi ((hS _ _ e).1 hi))⟩
  | symm _ ih => exact ⟨ih.1.symm, fun hj => .symm (ih.2 (ih.1.2 hj))⟩
  | trans _ _ ih1 ih2 => exact ⟨ih1.1.trans ih2.1, fun hi => .trans (ih1.2 hi) (ih2.2 (ih1.1.1 hi))⟩
theorem cl_mono {E F : Nat → Nat → Prop} (h : ∀ i j, E i j → F i j) {i j : Nat} (k : Cl E i j) : Cl F i j := by
  induction k with
  | refl i => exact .refl i
  | edge e => exact .edge (h _ _ e)
  | symm _ ih => exact .symm ih
  | trans _ _ ih1 ih2 => exact .trans ih1 ih2
/-- dk' has, of the colour, the pixels of dk that S tells; S tells whole components -/
structure Sel (W : Nat) (eight : Bool) (dk dk' : List Bool) (dark : Bool) (S : Nat → Prop) : Prop where
  len : dk'.length = dk.length
  iff : ∀ i : Nat, dk'[i]? = some dark ↔ dk[i]? = some dark ∧ S i
  whole : ∀ i j, DD dk dark i → DD dk dark j → RR W eight dk dark i j → (S i ↔ S j)
section
variable {W : Nat} {eight : Bool} {dk dk' : List Bool} {dark : Bool} {S : Nat → Prop}
theorem Sel.down (h : Sel W eight dk dk' dark S) {i j : Nat} (hR : RR W eight dk' dark i j) : RR W eight dk dark i j :=
  cl_mono (fun a b e => ⟨by rw [← h.len]; exact e.1, ((h.iff a).1 e.2.1).1, ((h.iff b).1 e.2.2.1).1, e.2.2.2⟩) hR
theorem Sel.up (h : Sel W eight dk dk' dark S) {i j : Nat} (hi : DD dk' dark i) (hR : RR W eight dk dark i j) : RR W eight dk' dark i j := by
  refine (cl_part (S := S) (F := Ed W eight dk' dark dk'.length) (fun a b e => ?_) (fun a b e ha hb => ?_) hR).2 ((h.iff i).1 hi).2
  · exact h.whole a b e.2.1 e.2.2.1 (.edge e)
  · exact ⟨by rw [h.len]; exact e.1, (h.iff a).2 ⟨e.2.1, ha⟩, (h.iff b).2 ⟨e.2.2.1, hb⟩, e.2.2.2⟩
theorem Sel.in (h : Sel W eight dk dk' dark S) {i j : Nat} (hi : DD dk' dark i) (hj : DD dk dark j) (hR : RR W eight dk dark i j) : DD dk' dark j :=
  (h.iff j).2 ⟨hj, (h.whole i j ((h.iff i).1 hi).1 hj hR).1 ((h.iff i).1 hi).2⟩
theorem Sel.fst (h : Sel W eight dk dk' dark S) {f : Nat} (hf : Fst (DD dk' dark) (RR W eight dk' dark) f) : Fst (DD dk dark) (RR W eight dk dark) f :=
  ⟨((h.iff f).1 hf.1).1, fun j hj hD hR => hf.2 j hj (h.in hf.1 hD (Cl.symm hR)) (Cl.symm (h.up hf.1 (Cl.symm hR)))⟩
theorem Sel.cnt (h : Sel W eight dk dk' dark S) {f : Nat} (hf : DD dk' dark f) : ∀ k, cnt (DD dk' dark) (RR W eight dk' dark) f k = cnt (DD dk dark) (RR W eight dk dark) f k
  | 0 => rfl
  | k + 1 => by
    have e : (DD dk' dark k ∧ RR W eight dk' dark f k) ↔ (DD dk dark k ∧ RR W eight dk dark f k) :=
      ⟨fun x => ⟨((h.iff k).1 x.1).1, h.down x.2⟩, fun x => ⟨h.in hf x.1 x.2, h.up hf x.2⟩⟩
    rw [Go.Proofs.Ytnnmebpahickhaa.cnt, Go.Proofs.Ytnnmebpahickhaa.cnt, Sel.cnt h hf k]
    by_cases c : DD dk dark k ∧ RR W eight dk dark f k
    · rw [if_pos (e.2 c), if_pos c]
    · rw [if_neg (fun x => c (e.1 x)), if_neg c]
end
/-- the area of a pixel's component, by its label -/
theorem Labelled.area {D : Nat → Prop} {R : Nat → Nat → Prop} {W n : Nat} {lab : List Int} {bl : List Bl} (h : Labelled D R W n lab bl) {i : Nat} (hi : i < n) (hD : D i) : ∃ f, f ≤ i ∧ Fst D R f ∧ R f i ∧ (bk bl (lab.getD i 0)).area = (cnt D R f n : Int) := by
  obtain ⟨f, f1, f2, f3, f4⟩ := h.on i hi hD
  obtain ⟨b, b1, b2⟩ := h.blob f (by omega) f2
  refine ⟨f, f1, f2, f3, ?_⟩
  rw [← b2.area]
  simp [bk, f4, b1]
/-- Despeckle, done twice -/
theorem desp_twice {W : Nat} {dk : List Bool} {area : Int} {lab lab' : List Int} {bl bl' : List Bl} (hL : Labelled (DD dk true) (RR W true dk true) W dk.length lab bl)
    (hL' : Labelled (DD (tab dk.length (despf dk lab bl area)) true) (RR W true (tab dk.length (despf dk lab bl area)) true) W (tab dk.length (despf dk lab bl area)).length lab' bl') :
    tab (tab dk.length (despf dk lab bl area)).length (despf (tab dk.length (despf dk lab bl area)) lab' bl' area) = tab dk.length (despf dk lab bl area) := by
  obtain ⟨dk', hdk'⟩ : ∃ l, l = tab dk.length (despf dk lab bl area) := ⟨_, rfl⟩
  rw [← hdk'] at hL' ⊢
  have hlen : dk'.length = dk.length := by rw [hdk', tab_len]
  have hget : ∀ i, i < dk.length → dk'[i]? = some (despf dk lab bl area i) := fun i hi => by rw [hdk', tab_get hi]
  have hs : Sel W true dk dk' true (fun i => area ≤ (bk bl (lab.getD i 0)).area) := by
    refine ⟨hlen, fun i => ?_, fun i j hi hj hR => ?_⟩
    · by_cases hi : i < dk.length
      · rw [hget i hi]
        rcases dk_cases hi with hd | hd
        · simp [despf, hd]
        · simp [despf, hd]
      · rw [List.getElem?_eq_none (by omega), List.getElem?_eq_none (by omega)]; simp
    · obtain ⟨f, _, f2, f3, f4⟩ := hL.area (List.getElem?_eq_some_iff.1 hi).1 hi
      obtain ⟨g, _, g2, g3, g4⟩ := hL.area (List.getElem?_eq_some_iff.1 hj).1 hj
      have : f = g := first_eq (R := RR W true dk true) (fun _ _ => Cl.symm) (fun _ _ _ => Cl.trans) f2 g2 (Cl.trans f3 hR) g3
      subst this
      show area ≤ _ ↔ area ≤ _
      rw [f4, g4]
  refine (tab_eq rfl fun i hi => ?_).symm
  rw [hlen] at hi
  have hi' : i < dk'.length := by omega
  rcases dk_cases hi' with hd | hd
  · obtain ⟨f, f1, f2, f3, f4⟩ := hL'.area hi' hd
    have h1 := (hs.iff i).1 hd
    obtain ⟨g, _, g2, g3, g4⟩ := hL.area hi h1.1
    have hfg : f = g := first_eq (R := RR W true dk true) (fun _ _ => Cl.symm) (fun _ _ _ => Cl.trans) (hs.fst f2) g2 (hs.down f3) g3
    have h2 : area ≤ (bk bl (lab.getD i 0)).area := h1.2
    rw [g4, ← hfg, ← hs.cnt f2.1, ← hlen] at h2
    rw [hd]
    simp [despf, hd]
    rw [show (bk bl' (lab'[i]?.getD 0)).area = (bk bl' (lab'.getD i 0)).area by simp, f4]
    exact h2
  · rw [hd]; simp [despf, hd]
/-- Fill, done twice; no hole is left -/
theorem fill_none {W Ht : Nat} {dk : List Bool} (i : Nat) : ¬ Hol W Ht (tab dk.length (fillc W Ht dk)) i := by
  obtain ⟨dk', hdk'⟩ : ∃ l, l = tab dk.length (fillc W Ht dk) := ⟨_, rfl⟩
  rw [← hdk']
  have hlen : dk'.length = dk.length := by rw [hdk', tab_len]
  have hs : Sel W false dk dk' false (fun i => ¬ Hol W Ht dk i) := by
    refine ⟨hlen, fun i => ?_, fun i j hi hj hR => ⟨fun h k => h (k.of hi (Cl.symm hR)), fun h k => h (k.of hj hR)⟩⟩
    by_cases hi : i < dk.length
    · rw [hdk', tab_get hi]
      rcases dk_cases hi with hd | hd
      · simp [fillc, hd]
      · simp [fillc, hd]
    · rw [List.getElem?_eq_none (by omega), List.getElem?_eq_none (by omega)]; simp
  rintro ⟨h1, h2⟩
  obtain ⟨d1, d2⟩ := (hs.iff i).1 h1
  refine d2 ⟨d1, fun j hj hR => h2 j (hs.in h1 hj hR) (hs.up h1 hR)⟩
theorem fill_twice {W Ht : Nat} {dk : List Bool} : tab (tab dk.length (fillc W Ht dk)).length (fillc W Ht (tab dk.length (fillc W Ht dk))) = tab dk.length (fillc W Ht dk) := by
  refine (tab_eq rfl fun i hi => ?_).symm
  rcases dk_cases hi with hd | hd
  · rw [hd, fillc_dark hd]
  · rw [hd, fillc_light hd]
    have := fill_none (W := W) (Ht := Ht) (dk := dk) i
    simp [this]
theorem fill_nh {W Ht : Nat} {dk : List Bool} : nh W Ht (tab dk.length (fillc W Ht dk)) = 0 := by
  unfold nh
  rw [List.length_eq_zero_iff, List.eq_nil_iff_forall_not_mem]
  exact fun i hi => fill_none i (hFst_mem.1 hi).2
end Go.Proofs.Ytnnmebpahickhaa
