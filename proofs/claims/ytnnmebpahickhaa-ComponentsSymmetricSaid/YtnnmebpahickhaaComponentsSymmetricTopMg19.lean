/- Texts of the claim, laid together: HoleM, SymU. -/
import Derived.DeepKeys
import Derived.Laws.StructEq
import Derived.Test.YtnnmebpahickhaaComponentsSymmetricTopMg11
import Derived.Test.YtnnmebpahickhaaComponentsSymmetricTopMg17
/- components: holes, as plain mathematics. -/
namespace Go.Proofs.Ytnnmebpahickhaa
set_option linter.unusedSimpArgs false
set_option linter.unusedVariables false
open Go.RowKit Sym Uf Classical

/-- a pixel of the border -/
def Bord (W Ht j : Nat) : Prop := j % W = 0 ∨ j % W + 1 = W ∨ j / W = 0 ∨ j / W + 1 = Ht
/-- a light pixel whose component does not touch the border -/
def Hol (W Ht : Nat) (dk : List Bool) (i : Nat) : Prop := DD dk false i ∧ ∀ j, DD dk false j → RR W false dk false i j → ¬ Bord W Ht j
noncomputable def fillc (W Ht : Nat) (dk : List Bool) (i : Nat) : Bool := decide (dk[i]? = some true ∨ Hol W Ht dk i)
theorem Hol.of {W Ht : Nat} {dk : List Bool} {i j : Nat} (h : Hol W Ht dk i) (hj : DD dk false j) (hR : RR W false dk false i j) : Hol W Ht dk j := ⟨hj, fun k hk hjk => h.2 k hk (Cl.trans hR hjk)⟩
theorem hb_iff {W Ht n f : Nat} {dk : List Bool} {b : Bl} (hn : n = dk.length) (hWH : n = W * Ht) (hW : 0 < W) (hB : BSpec (DD dk false) (RR W false dk false) W f n b) (hf : Fst (DD dk false) (RR W false dk false) f) : Hb (W : Int) (Ht : Int) b ↔ Hol W Ht dk f := by
  have lt : ∀ {j : Nat}, DD dk false j → j < n := fun h => by rw [hn]; exact (List.getElem?_eq_some_iff.1 h).1
  have hm : ∀ j : Nat, j % W < W := fun j => Nat.mod_lt j hW
  have hd : ∀ {j : Nat}, j < n → j / W < Ht := fun h => Nat.div_lt_of_lt_mul (by rw [← hWH]; exact h)
  constructor
  · rintro ⟨h1, h2, h3, h4⟩
    refine ⟨hf.1, fun j hj hR hb => ?_⟩
    have ha := hB.all j (lt hj) hj hR
    have hy := hB.y
    have hle : f / W ≤ j / W := Nat.div_le_div_right (hf.le (fun _ _ => Cl.symm) hj hR)
    unfold Bord at hb
    generalize j % W = x at *
    generalize j / W = y at *
    generalize f / W = y0 at *
    omega
  · rintro ⟨_, h⟩
    obtain ⟨i1, a1, a2, a3, a4⟩ := hB.left
    obtain ⟨i3, c1, c2, c3, c4⟩ := hB.right
    obtain ⟨i5, e1, e2, e3, e4⟩ := hB.low
    have k1 := h i1 a2 a3
    have k3 := h i3 c2 c3
    have k5 := h i5 e2 e3
    have k0 := h f hf.1 (Cl.refl f)
    have hy := hB.y
    have l1 := hm i3
    have l5 := hd e1
    unfold Bord at k1 k3 k5 k0
    unfold Hb
    generalize i1 % W = x1 at *
    generalize i1 / W = y1 at *
    generalize i3 % W = x3 at *
    generalize i3 / W = y3 at *
    generalize i5 % W = x5 at *
    generalize i5 / W = y5 at *
    generalize f % W = x0 at *
    generalize f / W = y0 at *
    omega
theorem bspec_small {W n f : Nat} {dk : List Bool} {b : Bl} (hB : BSpec (DD dk false) (RR W false dk false) W f n b) (hf : Fst (DD dk false) (RR W false dk false) f) (hfn : f < n) (hn : n ≤ 4194304) : b.small := hB.small (fun _ _ => Cl.symm) hf hfn hn
/-- two lists without repetition that hold the same -/
theorem same_len {α : Type} [DecidableEq α] {l m : List α} (hl : l.Nodup) (hm : m.Nodup) (h : ∀ x, x ∈ l ↔ x ∈ m) : l.length = m.length :=
  Nat.le_antisymm (List.Nodup.length_le_of_subset hl fun x hx => (h x).1 hx) (List.Nodup.length_le_of_subset hm fun x hx => (h x).2 hx)
/-- the first pixels of holes -/
noncomputable def hFst (W Ht : Nat) (dk : List Bool) : List Nat := (List.range dk.length).filter fun i => decide (Fst (DD dk false) (RR W false dk false) i ∧ Hol W Ht dk i)
noncomputable def nh (W Ht : Nat) (dk : List Bool) : Nat := (hFst W Ht dk).length
theorem hFst_mem {W Ht : Nat} {dk : List Bool} {i : Nat} : i ∈ hFst W Ht dk ↔ Fst (DD dk false) (RR W false dk false) i ∧ Hol W Ht dk i := by
  unfold hFst
  rw [List.mem_filter, List.mem_range, decide_eq_true_eq]
  exact ⟨fun h => h.2, fun h => ⟨(List.getElem?_eq_some_iff.1 h.1.1).1, h⟩⟩
theorem hFst_nodup (W Ht : Nat) (dk : List Bool) : (hFst W Ht dk).Nodup := List.nodup_range.sublist List.filter_sublist
theorem nodup_map_on {α β : Type} {f : α → β} {l : List α} (hl : l.Nodup) (h : ∀ x ∈ l, ∀ y ∈ l, f x = f y → x = y) : (l.map f).Nodup := by
  induction l with
  | nil => simp
  | cons a l ih =>
    rw [List.nodup_cons] at hl
    rw [List.map_cons, List.nodup_cons]
    refine ⟨fun hm => ?_, ih hl.2 fun x hx y hy => h x (by simp [hx]) y (by simp [hy])⟩
    obtain ⟨x, hx, e⟩ := List.mem_map.1 hm
    exact hl.1 (h x (by simp [hx]) a (by simp) e ▸ hx)
/-- the number of blobs that are holes -/
theorem nh_blobs {W Ht : Nat} {dk : List Bool} {lab : List Int} {bl : List Bl} (hL : Labelled (DD dk false) (RR W false dk false) W dk.length lab bl) (hWH : dk.length = W * Ht) (hW : 0 < W) :
    ((List.range bl.length).filter fun q => decide (Hb (W : Int) (Ht : Int) (bl.getD q default))).length = nh W Ht dk := by
  have : nh W Ht dk = ((hFst W Ht dk).map (nf (DD dk false) (RR W false dk false))).length := by rw [List.length_map]; rfl
  rw [this]
  refine same_len (List.nodup_range.sublist List.filter_sublist) (nodup_map_on (hFst_nodup W Ht dk) fun x hx y hy e => nf_inj (hFst_mem.1 hx).1 (hFst_mem.1 hy).1 e) fun q => ?_
  rw [List.mem_filter, List.mem_range, decide_eq_true_eq, List.mem_map]
  constructor
  · rintro ⟨h1, h2⟩
    rw [hL.num] at h1
    obtain ⟨f, f1, f2, rfl⟩ := nf_surj h1
    obtain ⟨b, b1, b2⟩ := hL.blob f f1 f2
    rw [List.getD_eq_getElem?_getD, b1] at h2
    exact ⟨f, hFst_mem.2 ⟨f2, (hb_iff rfl hWH hW b2 f2).1 h2⟩, rfl⟩
  · rintro ⟨f, hf, rfl⟩
    obtain ⟨f2, f3⟩ := hFst_mem.1 hf
    have hlt := (List.getElem?_eq_some_iff.1 f2.1).1
    obtain ⟨b, b1, b2⟩ := hL.blob f hlt f2
    refine ⟨by rw [hL.num]; exact nf_lt f2 hlt, ?_⟩
    rw [List.getD_eq_getElem?_getD, b1]
    exact (hb_iff rfl hWH hW b2 f2).2 f3
/-! the map of roots -/
def keys (m : List (Int × Bool)) : List Int := m.map (·.1)
theorem aget_mem {m : List (Int × Bool)} {z : Int} : z ∈ keys m ↔ aget m z ≠ none := by
  induction m with
  | nil => simp [keys, aget]
  | cons p m ih =>
    simp only [keys, List.map_cons, List.mem_cons, aget]
    by_cases h : z = p.1
    · simp [h]
    · simp only [h, false_or, if_false]; exact ih
theorem aput_keys {m : List (Int × Bool)} {z x : Int} {b : Bool} : x ∈ keys (aput m z b) ↔ x = z ∨ x ∈ keys m := by
  rw [aget_mem, aget_aput, aget_mem]
  by_cases h : x = z <;> simp [h]
theorem aput_nodup {m : List (Int × Bool)} {z : Int} {b : Bool} (h : (keys m).Nodup) : (keys (aput m z b)).Nodup := by
  induction m with
  | nil => simp [aput, keys]
  | cons p m ih =>
    rw [keys, List.map_cons, List.nodup_cons] at h
    by_cases e : z = p.1
    · rw [aput, if_pos e, keys, List.map_cons, List.nodup_cons]; exact ⟨by rw [e]; exact h.1, h.2⟩
    · rw [aput, if_neg e, keys, List.map_cons, List.nodup_cons]
      refine ⟨fun hm => ?_, ih h.2⟩
      rcases aput_keys.1 hm with h1 | h1
      · exact e h1.symm
      · exact h.1 h1
theorem adel_sub {m : List (Int × Bool)} {z : Int} : (adel m z).Sublist m := by
  induction m with
  | nil => exact List.Sublist.refl _
  | cons p m ih =>
    by_cases e : z = p.1
    · rw [adel, if_pos e]; exact List.sublist_cons_self _ _
    · rw [adel, if_neg e]; exact ih.cons_cons _
theorem adel_nodup {m : List (Int × Bool)} {z : Int} (h : (keys m).Nodup) : (keys (adel m z)).Nodup := h.sublist (adel_sub.map _)
theorem aget_adel {m : List (Int × Bool)} (h : (keys m).Nodup) (z x : Int) : aget (adel m z) x = if x = z then none else aget m x := by
  induction m with
  | nil => simp [adel, aget]
  | cons p m ih =>
    rw [keys, List.map_cons, List.nodup_cons] at h
    by_cases e : z = p.1
    · rw [adel, if_pos e, aget]
      by_cases hx : x = z
      · rw [if_pos hx]
        refine Classical.byContradiction fun hne => h.1 ?_
        rw [hx, e] at hne
        exact aget_mem.2 hne
      · rw [if_neg hx, if_neg (fun e' => hx (e'.trans e.symm))]
    · rw [adel, if_neg e, aget, aget, ih h.2]
      by_cases hx : x = p.1
      · rw [if_pos hx, if_pos hx, if_neg (fun e' => e (e'.symm.trans hx))]
      · rw [if_neg hx, if_neg hx]
/-- the map holds the roots of the pixels P, but for those of Dl -/
structure Inn (m : List (Int × Bool)) (s : List Int) (P Dl : Nat → Prop) : Prop where
  nd : (keys m).Nodup
  iff : ∀ z, aget m z = some true ↔ (∃ i : Nat, P i ∧ s[i]? = some z) ∧ ∀ j : Nat, Dl j → s[j]? ≠ some z
  tr : ∀ z b, aget m z = some b → b = true
theorem Inn.start (s : List Int) : Inn [] s (fun _ => False) (fun _ => False) := ⟨by simp [keys], fun z => by simp [aget], fun z b h => by simp [aget] at h⟩
theorem Inn.put {m : List (Int × Bool)} {s : List Int} {P : Nat → Prop} (h : Inn m s P (fun _ => False)) {k : Nat} {z : Int} (hz : s[k]? = some z) : Inn (aput m z true) s (fun i => P i ∨ i = k) (fun _ => False) where
  nd := aput_nodup h.nd
  iff x := by
    rw [aget_aput]
    by_cases e : x = z
    · subst e
      rw [if_pos rfl]
      exact ⟨fun _ => ⟨⟨k, .inr rfl, hz⟩, fun _ h => h.elim⟩, fun _ => rfl⟩
    · rw [if_neg e, h.iff]
      constructor
      · rintro ⟨⟨i, h1, h2⟩, _⟩; exact ⟨⟨i, .inl h1, h2⟩, fun _ h => h.elim⟩
      · rintro ⟨⟨i, h1 | rfl, h2⟩, _⟩
        · exact ⟨⟨i, h1, h2⟩, fun _ h => h.elim⟩
        · rw [hz] at h2; exact (e (Option.some.inj h2).symm).elim
  tr x b hx := by
    rw [aget_aput] at hx
    by_cases e : x = z
    · rw [if_pos e] at hx; exact (Option.some.inj hx).symm
    · rw [if_neg e] at hx; exact h.tr x b hx
theorem Inn.del {m : List (Int × Bool)} {s : List Int} {P Dl : Nat → Prop} (h : Inn m s P Dl) {k : Nat} {z : Int} (hz : s[k]? = some z) : Inn (adel m z) s P (fun j => Dl j ∨ j = k) where
  nd := adel_nodup h.nd
  iff x := by
    rw [aget_adel h.nd]
    by_cases e : x = z
    · subst e
      rw [if_pos rfl]
      exact ⟨fun h => (by cases h), fun h => (h.2 k (.inr rfl) hz).elim⟩
    · rw [if_neg e, h.iff]
      refine and_congr_right fun _ => ⟨fun h j hj => ?_, fun h j hj => h j (.inl hj)⟩
      rcases hj with hj | rfl
      · exact h j hj
      · rw [hz]; exact fun e' => e (Option.some.inj e').symm
  tr x b hx := by
    rw [aget_adel h.nd] at hx
    by_cases e : x = z
    · rw [if_pos e] at hx; cases hx
    · rw [if_neg e] at hx; exact h.tr x b hx
theorem Inn.congr {m : List (Int × Bool)} {s : List Int} {P Dl P' Dl' : Nat → Prop} (h : Inn m s P Dl) (hP : ∀ i, P i ↔ P' i) (hD : ∀ j, Dl j ↔ Dl' j) : Inn m s P' Dl' := by
  have e1 : P = P' := funext fun i => propext (hP i)
  have e2 : Dl = Dl' := funext fun i => propext (hD i)
  rw [← e1, ← e2]; exact h
/-- at the end -/
theorem Inn.hol {m : List (Int × Bool)} {s : List Int} {W Ht : Nat} {dk : List Bool} (h : Inn m s (DD dk false) (fun j => j < dk.length ∧ Bord W Ht j)) (hP : Parted W false dk false s) {i : Nat} {z : Int} (hi : DD dk false i) (hz : s[i]? = some z) : aget m z = some true ↔ Hol W Ht dk i := by
  rw [h.iff]
  constructor
  · rintro ⟨_, h2⟩
    exact ⟨hi, fun j hj hR hb => h2 j ⟨(List.getElem?_eq_some_iff.1 hj).1, hb⟩ ((hP.same i j z hi hj hz).2 hR)⟩
  · intro hH
    refine ⟨⟨i, hi, hz⟩, fun j ⟨hj, hb⟩ hs => ?_⟩
    rcases dk_cases hj with h1 | h1
    · have h2 := hP.off j h1
      rw [hs] at h2
      obtain ⟨r, _, h4⟩ := hP.on i hi
      rw [hz] at h4
      have e1 := Option.some.inj h2
      have e2 := Option.some.inj h4
      omega
    · exact hH.2 j h1 ((hP.same i j z hi h1 hz).1 hs) hb
theorem Inn.look {m : List (Int × Bool)} {s : List Int} {W Ht : Nat} {dk : List Bool} (h : Inn m s (DD dk false) (fun j => j < dk.length ∧ Bord W Ht j)) (hP : Parted W false dk false s) {i : Nat} {z : Int} (hi : DD dk false i) (hz : s[i]? = some z) : ((aget m z).map Value.bool).getD (.bool false) = .bool (decide (Hol W Ht dk i)) := by
  cases hq : aget m z with
  | none =>
    have : ¬ Hol W Ht dk i := fun hH => by rw [(h.hol hP hi hz).2 hH] at hq; cases hq
    simp [this]
  | some b =>
    have := h.tr z b hq
    subst this
    simp [(h.hol hP hi hz).1 hq]
theorem Inn.count {m : List (Int × Bool)} {s : List Int} {W Ht : Nat} {dk : List Bool} (h : Inn m s (DD dk false) (fun j => j < dk.length ∧ Bord W Ht j)) (hP : Parted W false dk false s) : m.length = nh W Ht dk := by
  have e1 : m.length = (keys m).length := by simp [keys]
  have e2 : nh W Ht dk = ((hFst W Ht dk).map fun i => s.getD i 0).length := by rw [List.length_map]; rfl
  have val : ∀ i, DD dk false i → ∃ z, s[i]? = some z ∧ s.getD i 0 = z := fun i hi => by
    obtain ⟨r, _, h2⟩ := hP.on i hi
    exact ⟨_, h2, by rw [List.getD_eq_getElem?_getD, h2]; rfl⟩
  rw [e1, e2]
  refine same_len h.nd (nodup_map_on (hFst_nodup W Ht dk) fun x hx y hy e => ?_) fun z => ?_
  · obtain ⟨f1, _⟩ := hFst_mem.1 hx
    obtain ⟨f2, _⟩ := hFst_mem.1 hy
    obtain ⟨z, z1, z2⟩ := val x f1.1
    obtain ⟨z', z1', z2'⟩ := val y f2.1
    have ez : z = z' := by rw [← z2, ← z2']; exact e
    subst ez
    exact first_eq (R := RR W false dk false) (fun _ _ => Cl.symm) (fun _ _ _ => Cl.trans) f1 f2 ((hP.same x y z f1.1 f2.1 z1).1 z1') (Cl.refl y)
  · rw [aget_mem, List.mem_map]
    constructor
    · intro hne
      cases hq : aget m z with
      | none => exact (hne hq).elim
      | some b =>
        have := h.tr z b hq
        subst this
        obtain ⟨⟨i, hi, hz⟩, _⟩ := (h.iff z).1 hq
        have hH := (h.hol hP hi hz).1 hq
        obtain ⟨g, g1, g2, g3⟩ := first_of (D := DD dk false) (R := RR W false dk false) Cl.refl (fun _ _ _ => Cl.trans) i hi
        refine ⟨g, hFst_mem.2 ⟨g2, hH.of g2.1 (Cl.symm g3)⟩, ?_⟩
        rw [List.getD_eq_getElem?_getD, (hP.same i g z hi g2.1 hz).2 (Cl.symm g3)]; rfl
    · rintro ⟨i, hi, rfl⟩
      obtain ⟨f1, hH⟩ := hFst_mem.1 hi
      obtain ⟨z, z1, z2⟩ := val i f1.1
      rw [z2, (h.hol hP f1.1 z1).2 hH]; simp
/-- what Fill answers -/
def FillSp (W Ht : Int) (dk : List Bool) (W1 H1 : Int) (l : List Bool) (e : Int) : Prop :=
  (¬ okMat W Ht dk.length ∧ W1 = 0 ∧ H1 = 0 ∧ l = [] ∧ e = 1) ∨ (okMat W Ht dk.length ∧ W1 = W ∧ H1 = Ht ∧ e = 0 ∧ l = tab dk.length (fillc W.toNat Ht.toNat dk))
theorem FillSp.det {W Ht : Int} {dk : List Bool} {W1 H1 W2 H2 : Int} {l m : List Bool} {e g : Int} (h : FillSp W Ht dk W1 H1 l e) (k : FillSp W Ht dk W2 H2 m g) : W1 = W2 ∧ H1 = H2 ∧ l = m ∧ e = g := by
  rcases h with ⟨h0, rfl, rfl, rfl, rfl⟩ | ⟨h0, rfl, rfl, rfl, rfl⟩ <;> rcases k with ⟨k0, rfl, rfl, rfl, rfl⟩ | ⟨k0, rfl, rfl, rfl, rfl⟩ <;> first | exact ⟨rfl, rfl, rfl, rfl⟩ | exact (h0 k0).elim | exact (k0 h0).elim
/-- what Euler answers -/
def EulSp (W Ht : Int) (dk : List Bool) (k e : Int) : Prop :=
  (¬ okMat W Ht dk.length ∧ k = 0 ∧ e = 1) ∨ (okMat W Ht dk.length ∧ 65536 < nf (DD dk true) (RR W.toNat true dk true) dk.length ∧ k = 0 ∧ e = 4) ∨
  (okMat W Ht dk.length ∧ nf (DD dk true) (RR W.toNat true dk true) dk.length ≤ 65536 ∧ e = 0 ∧ k = (nf (DD dk true) (RR W.toNat true dk true) dk.length : Int) - (nh W.toNat Ht.toNat dk : Int))
theorem EulSp.det {W Ht : Int} {dk : List Bool} {k e k' e' : Int} (h : EulSp W Ht dk k e) (h' : EulSp W Ht dk k' e') : k = k' ∧ e = e' := by
  rcases h with ⟨h0, rfl, rfl⟩ | ⟨h0, h1, rfl, rfl⟩ | ⟨h0, h1, rfl, rfl⟩ <;> rcases h' with ⟨k0, rfl, rfl⟩ | ⟨k0, k1, rfl, rfl⟩ | ⟨k0, k1, rfl, rfl⟩ <;> first | exact ⟨rfl, rfl⟩ | exact (h0 k0).elim | exact (k0 h0).elim | omega
theorem fillc_dark {W Ht : Nat} {dk : List Bool} {i : Nat} (h : dk[i]? = some true) : fillc W Ht dk i = true := by simp [fillc, h]
theorem fillc_light {W Ht : Nat} {dk : List Bool} {i : Nat} (h : dk[i]? = some false) : fillc W Ht dk i = decide (Hol W Ht dk i) := by simp [fillc, h]
theorem nh_le (W Ht : Nat) (dk : List Bool) : nh W Ht dk ≤ dk.length := by
  unfold nh hFst
  have := List.length_filter_le (fun i => decide (Fst (DD dk false) (RR W false dk false) i ∧ Hol W Ht dk i)) (List.range dk.length)
  simpa using this
end Go.Proofs.Ytnnmebpahickhaa

/- The walk by named slots, more operations. For whatever program. -/
namespace Go.Proofs.Ytnnmebpahickhaa.Sym
set_option linter.unusedSimpArgs false
set_option linter.unusedVariables false
open Go.RowKit
/-- some cells of a variable -/
theorem M.bsub {w0 w : World} {S : Nat → Prop} {rs : List Rg} {b off n : Nat} {T : TypeId} {cs : List Value} (h : M w0 S w rs) (i : Nat) (hi : rs[i]? = some (Rg.blk b T cs)) : At w b off ((cs.drop off).take n) := fun j u hu => by
  rw [List.getElem?_take] at hu
  split at hu
  · rw [List.getElem?_drop] at hu; exact h.bcell i hi hu
  · cases hu
section
variable {P : Program} {ops : Array Oper} {Q : Exit → Act → World → Prop} {Qn Lq : Act → Prop} {s : St} {env : Env} {w0 w : World} {S : Nat → Prop} {rs : List Rg} {rest : List Oper}
variable {d : Nat} {ty : TypeId} {pos : String} {aft : Array Edge}
/-- a byte of a string -/
theorem run_idxS {t : TypeId} {b : ByteArray} {k : Nat} {kd : IntKind} {c : UInt8} (ht : P.underlying t = some .string) (hc : b[k]? = some c) : (Instr.index t (.string b) (.int kd (k : Int))).run P w = .ok (u8 c) w := by
  simp [Instr.index, asIntOf, run_underlying ht, hc]
theorem E.idxS {t : TypeId} {x ix : Operand} {b : ByteArray} {i : Int} {kd : IntKind} (k : Nat) (c : UInt8) (hx : ev env x = some (.string b)) (hi : ev env ix = some (.int kd i)) (hk : i = (k : Int)) (hc : b[k]? = some c) (ht : P.underlying t = some .string) (hd : Nat.blt d s.n = true)
    (h : wpE P ops Q s rest ((d, u8 c) :: env) w) : wpE P ops Q s (⟨some d, .index t x ix, ty, pos, aft, none⟩ :: rest) env w := by
  subst hk
  exact E.op (fun a ha => by simp only [execOp, ha.ev hx, ha.ev hi]; rw [Sem.run_bind, run_idxS ht hc]; rfl) hd h
theorem Q.idxS {t : TypeId} {x ix : Operand} {b : ByteArray} {i : Int} {kd : IntKind} (k : Nat) (c : UInt8) (hx : ev env x = some (.string b)) (hi : ev env ix = some (.int kd i)) (hk : i = (k : Int)) (hc : b[k]? = some c) (ht : P.underlying t = some .string) (hd : Nat.blt d s.n = true)
    (h : wpQ P ops w Qn s rest ((d, u8 c) :: env)) : wpQ P ops w Qn s (⟨some d, .index t x ix, ty, pos, aft, none⟩ :: rest) env := by
  subst hk
  exact Q.op (fun w' _ a ha => by simp only [execOp, ha.ev hx, ha.ev hi]; rw [Sem.run_bind, run_idxS ht hc]; rfl) hd h
theorem Y.idxS {t : TypeId} {x ix : Operand} {b : ByteArray} {i : Int} {kd : IntKind} (k : Nat) (c : UInt8) (hx : ev env x = some (.string b)) (hi : ev env ix = some (.int kd i)) (hk : i = (k : Int)) (hc : b[k]? = some c) (ht : P.underlying t = some .string) : Yld P ops s env w ⟨some d, .index t x ix, ty, pos, aft, none⟩ (u8 c) := by
  subst hk
  exact Yld.of (fun a ha => by simp only [execOp, ha.ev hx, ha.ev hi]; rw [Sem.run_bind, run_idxS ht hc]; rfl)
/-- two structs or arrays of numbers can be compared -/
def EqT (P : Program) (t : TypeId) (n : Nat) : Prop := P.eqGuardType P.depth t = false ∧ ∀ (w : World) (xs ys : List Int), xs.length = n → ys.length = n → ∃ r : Bool, (Op.equal t (.agg (xs.map i64).toArray) (.agg (ys.map i64).toArray)).run P w = .ok r w ∧ (r = true ↔ xs = ys)
theorem eqI {P : Program} {t : TypeId} (d : Nat) (w : World) (a b : Int) (h : P.underlying t = some (.int .i64)) : (Op.equalIn (d + 1) t (i64 a) (i64 b)).run P w = .ok (decide (a = b)) w := by
  rw [run_equalIn_int w d t .i64 .i64 a b h]
  congr 1
theorem eqF_nil {P : Program} (d : Nat) (w : World) (xs ys : Array Value) : (Op.eqFields d xs ys []).run P w = .ok (decide True) w := rfl
theorem eqF_cons {P : Program} {d : Nat} {w : World} {xs ys : Array Value} {f : Field} {fs : List Field} {a b : Value} {p q : Prop} [Decidable p] [Decidable q] (hn : (f.name != "_") = true) (ha : (part f.type xs f.offset).run P w = .ok a w) (hb : (part f.type ys f.offset).run P w = .ok b w)
    (he : (Op.equalIn d f.type a b).run P w = .ok (decide p) w) (hr : (Op.eqFields d xs ys fs).run P w = .ok (decide q) w) : (Op.eqFields d xs ys (f :: fs)).run P w = .ok (decide (p ∧ q)) w := by
  have hn' : f.name ≠ "_" := by simpa using hn
  simp only [Op.eqFields, if_pos hn']
  rw [Sem.run_bind, ha]
  simp only [Result.andThen_ok]
  rw [Sem.run_bind, hb]
  simp only [Result.andThen_ok]
  rw [Sem.run_bind, he]
  simp only [Result.andThen_ok]
  by_cases hp : p
  · simp only [hp, decide_true, Bool.not_true, Bool.false_eq_true, if_false, true_and]; exact hr
  · simp [hp]
theorem eqS {P : Program} {t : TypeId} {fs : List Field} {d : Nat} {xs ys : Array Value} {w : World} {p : Prop} [Decidable p] (ht : P.underlying t = some (.struct fs.toArray)) (hp : P.stoodInHeld t = false) (h : (Op.eqFields d xs ys fs).run P w = .ok (decide p) w) : (Op.equalIn (d + 1) t (.agg xs) (.agg ys)).run P w = .ok (decide p) w := by
  have e : P.fieldsOf t = fs.toArray := by simp [Program.fieldsOf, ht]
  rw [run_equalIn_struct w d t xs ys (by rw [e]; exact ht) hp, e]
  simpa using h
theorem run_eqA {t : TypeId} {n : Nat} (x y : Operand) (hE : EqT P t n) (xs ys : List Int) (h1 : xs.length = n) (h2 : ys.length = n) (op : BinOp) (ho : op = .eql ∨ op = .neq) : ∃ r : Bool, (r = true ↔ xs = ys) ∧ ∀ w : World,
    (do eqGuard op t x y (.agg (xs.map i64).toArray) (.agg (ys.map i64).toArray); binOp op t (.agg (xs.map i64).toArray) (.agg (ys.map i64).toArray) : Sem Value).run P w = .ok (.bool (if op = .eql then r else !r)) w := by
  refine ⟨decide (xs = ys), by simp, fun w => ?_⟩
  obtain ⟨r, hr, hi⟩ := hE.2 w xs ys h1 h2
  have e : r = decide (xs = ys) := by rw [Bool.eq_iff_iff]; simpa using hi
  subst e
  have hr' : (Op.equalIn 10000 t (.agg (xs.map i64).toArray) (.agg (ys.map i64).toArray)).run P w = .ok (decide (xs = ys)) w := hr
  rw [Sem.run_bind, run_eqGuard_agg w op t x y _ _ hE.1]
  rcases ho with rfl | rfl
  · simp only [Result.andThen_ok]
    rw [run_eql_struct, hr']; rfl
  · simp only [Result.andThen_ok]
    rw [run_neq_struct, hr']; rfl
theorem E.eqA {t t2 : TypeId} {n : Nat} {x y : Operand} (xs ys : List Int) (hE : EqT P t n) (hx : ev env x = some (.agg (xs.map i64).toArray)) (hy : ev env y = some (.agg (ys.map i64).toArray)) (h1 : xs.length = n) (h2 : ys.length = n) (hd : Nat.blt d s.n = true)
    (h : wpE P ops Q s rest ((d, .bool (decide (xs = ys))) :: env) w) : wpE P ops Q s (⟨some d, .binOp .eql t x y t2, ty, pos, aft, none⟩ :: rest) env w := by
  obtain ⟨r, hi, hr⟩ := run_eqA x y hE xs ys h1 h2 .eql (.inl rfl)
  have e : r = decide (xs = ys) := by rw [Bool.eq_iff_iff]; simpa using hi
  subst e
  exact E.op (fun a ha => by
    have := hr w
    simp only [execOp, ha.ev hx, ha.ev hy]
    rw [Sem.run_bind, this]; rfl) hd h
theorem E.neA {t t2 : TypeId} {n : Nat} {x y : Operand} (xs ys : List Int) (hE : EqT P t n) (hx : ev env x = some (.agg (xs.map i64).toArray)) (hy : ev env y = some (.agg (ys.map i64).toArray)) (h1 : xs.length = n) (h2 : ys.length = n) (hd : Nat.blt d s.n = true)
    (h : wpE P ops Q s rest ((d, .bool (decide (xs ≠ ys))) :: env) w) : wpE P ops Q s (⟨some d, .binOp .neq t x y t2, ty, pos, aft, none⟩ :: rest) env w := by
  obtain ⟨r, hi, hr⟩ := run_eqA x y hE xs ys h1 h2 .neq (.inr rfl)
  have e : (!r) = decide (xs ≠ ys) := by
    rw [Bool.eq_iff_iff]
    by_cases hxy : xs = ys <;> cases r <;> simp_all
  exact E.op (fun a ha => by
    have := hr w
    simp only [reduceCtorEq, if_false] at this
    rw [e] at this
    simp only [execOp, ha.ev hx, ha.ev hy]
    rw [Sem.run_bind, this]; rfl) hd h
theorem Q.eqA {t t2 : TypeId} {n : Nat} {x y : Operand} (xs ys : List Int) (hE : EqT P t n) (hx : ev env x = some (.agg (xs.map i64).toArray)) (hy : ev env y = some (.agg (ys.map i64).toArray)) (h1 : xs.length = n) (h2 : ys.length = n) (hd : Nat.blt d s.n = true)
    (h : wpQ P ops w Qn s rest ((d, .bool (decide (xs = ys))) :: env)) : wpQ P ops w Qn s (⟨some d, .binOp .eql t x y t2, ty, pos, aft, none⟩ :: rest) env := by
  obtain ⟨r, hi, hr⟩ := run_eqA x y hE xs ys h1 h2 .eql (.inl rfl)
  have e : r = decide (xs = ys) := by rw [Bool.eq_iff_iff]; simpa using hi
  subst e
  exact Q.op (fun w' _ a ha => by
    have := hr w'
    simp only [execOp, ha.ev hx, ha.ev hy]
    rw [Sem.run_bind, this]; rfl) hd h
theorem Q.neA {t t2 : TypeId} {n : Nat} {x y : Operand} (xs ys : List Int) (hE : EqT P t n) (hx : ev env x = some (.agg (xs.map i64).toArray)) (hy : ev env y = some (.agg (ys.map i64).toArray)) (h1 : xs.length = n) (h2 : ys.length = n) (hd : Nat.blt d s.n = true)
    (h : wpQ P ops w Qn s rest ((d, .bool (decide (xs ≠ ys))) :: env)) : wpQ P ops w Qn s (⟨some d, .binOp .neq t x y t2, ty, pos, aft, none⟩ :: rest) env := by
  obtain ⟨r, hi, hr⟩ := run_eqA x y hE xs ys h1 h2 .neq (.inr rfl)
  have e : (!r) = decide (xs ≠ ys) := by
    rw [Bool.eq_iff_iff]
    by_cases hxy : xs = ys <;> cases r <;> simp_all
  exact Q.op (fun w' _ a ha => by
    have := hr w'
    simp only [reduceCtorEq, if_false] at this
    rw [e] at this
    simp only [execOp, ha.ev hx, ha.ev hy]
    rw [Sem.run_bind, this]; rfl) hd h
theorem Y.eqA {t t2 : TypeId} {n : Nat} {x y : Operand} (xs ys : List Int) (hE : EqT P t n) (hx : ev env x = some (.agg (xs.map i64).toArray)) (hy : ev env y = some (.agg (ys.map i64).toArray)) (h1 : xs.length = n) (h2 : ys.length = n) : Yld P ops s env w ⟨some d, .binOp .eql t x y t2, ty, pos, aft, none⟩ (.bool (decide (xs = ys))) := by
  obtain ⟨r, hi, hr⟩ := run_eqA x y hE xs ys h1 h2 .eql (.inl rfl)
  have e : r = decide (xs = ys) := by rw [Bool.eq_iff_iff]; simpa using hi
  subst e
  exact Yld.of (fun a ha => by
    have := hr w
    simp only [execOp, ha.ev hx, ha.ev hy]
    rw [Sem.run_bind, this]; rfl)
/-! numbers that are not negative -/
theorem E.addN {t t2 : TypeId} {x y : Operand} {a b : Nat} (hx : ev env x = some (.int .i64 (a : Int))) (hy : ev env y = some (.int .i64 (b : Int))) (hr : a + b ≤ 9223372036854775807) (hd : Nat.blt d s.n = true) (h : wpE P ops Q s rest ((d, .int .i64 ((a + b : Nat) : Int)) :: env) w) : wpE P ops Q s (⟨some d, .binOp .add t x y t2, ty, pos, aft, none⟩ :: rest) env w :=
  E.add hx hy (by rw [← Int.natCast_add]; omega) hd (by rw [Int.natCast_add] at h; exact h)
theorem E.mulN {t t2 : TypeId} {x y : Operand} {a b : Nat} (hx : ev env x = some (.int .i64 (a : Int))) (hy : ev env y = some (.int .i64 (b : Int))) (hr : a * b ≤ 9223372036854775807) (hd : Nat.blt d s.n = true) (h : wpE P ops Q s rest ((d, .int .i64 ((a * b : Nat) : Int)) :: env) w) : wpE P ops Q s (⟨some d, .binOp .mul t x y t2, ty, pos, aft, none⟩ :: rest) env w :=
  E.mul hx hy (by rw [← Int.natCast_mul]; omega) hd (by rw [Int.natCast_mul] at h; exact h)
theorem E.subN {t t2 : TypeId} {x y : Operand} {a b : Nat} (hx : ev env x = some (.int .i64 (a : Int))) (hy : ev env y = some (.int .i64 (b : Int))) (hr : b ≤ a ∧ a ≤ 9223372036854775807) (hd : Nat.blt d s.n = true) (h : wpE P ops Q s rest ((d, .int .i64 ((a - b : Nat) : Int)) :: env) w) : wpE P ops Q s (⟨some d, .binOp .sub t x y t2, ty, pos, aft, none⟩ :: rest) env w :=
  E.sub' hx hy (by omega) hd (by rw [show ((a - b : Nat) : Int) = (a : Int) - (b : Int) by omega] at h; exact h)
theorem S.addN {t t2 : TypeId} {x y : Operand} {a b : Nat} (hx : ev env x = some (.int .i64 (a : Int))) (hy : ev env y = some (.int .i64 (b : Int))) (hr : a + b ≤ 9223372036854775807) (hd : Nat.blt d s.n = true) (h : wpS P ops Lq s rest ((d, .int .i64 ((a + b : Nat) : Int)) :: env) w) : wpS P ops Lq s (⟨some d, .binOp .add t x y t2, ty, pos, aft, none⟩ :: rest) env w :=
  S.add hx hy (by rw [← Int.natCast_add]; omega) hd (by rw [Int.natCast_add] at h; exact h)
theorem S.mulN {t t2 : TypeId} {x y : Operand} {a b : Nat} (hx : ev env x = some (.int .i64 (a : Int))) (hy : ev env y = some (.int .i64 (b : Int))) (hr : a * b ≤ 9223372036854775807) (hd : Nat.blt d s.n = true) (h : wpS P ops Lq s rest ((d, .int .i64 ((a * b : Nat) : Int)) :: env) w) : wpS P ops Lq s (⟨some d, .binOp .mul t x y t2, ty, pos, aft, none⟩ :: rest) env w :=
  S.mul hx hy (by rw [← Int.natCast_mul]; omega) hd (by rw [Int.natCast_mul] at h; exact h)
theorem S.subN {t t2 : TypeId} {x y : Operand} {a b : Nat} (hx : ev env x = some (.int .i64 (a : Int))) (hy : ev env y = some (.int .i64 (b : Int))) (hr : b ≤ a ∧ a ≤ 9223372036854775807) (hd : Nat.blt d s.n = true) (h : wpS P ops Lq s rest ((d, .int .i64 ((a - b : Nat) : Int)) :: env) w) : wpS P ops Lq s (⟨some d, .binOp .sub t x y t2, ty, pos, aft, none⟩ :: rest) env w :=
  S.sub' hx hy (by omega) hd (by rw [show ((a - b : Nat) : Int) = (a : Int) - (b : Int) by omega] at h; exact h)
theorem Q.addN {t t2 : TypeId} {x y : Operand} {a b : Nat} (hx : ev env x = some (.int .i64 (a : Int))) (hy : ev env y = some (.int .i64 (b : Int))) (hr : a + b ≤ 9223372036854775807) (hd : Nat.blt d s.n = true) (h : wpQ P ops w Qn s rest ((d, .int .i64 ((a + b : Nat) : Int)) :: env)) : wpQ P ops w Qn s (⟨some d, .binOp .add t x y t2, ty, pos, aft, none⟩ :: rest) env :=
  Q.add hx hy (by rw [← Int.natCast_add]; omega) hd (by rw [Int.natCast_add] at h; exact h)
theorem Q.mulN {t t2 : TypeId} {x y : Operand} {a b : Nat} (hx : ev env x = some (.int .i64 (a : Int))) (hy : ev env y = some (.int .i64 (b : Int))) (hr : a * b ≤ 9223372036854775807) (hd : Nat.blt d s.n = true) (h : wpQ P ops w Qn s rest ((d, .int .i64 ((a * b : Nat) : Int)) :: env)) : wpQ P ops w Qn s (⟨some d, .binOp .mul t x y t2, ty, pos, aft, none⟩ :: rest) env :=
  Q.mul hx hy (by rw [← Int.natCast_mul]; omega) hd (by rw [Int.natCast_mul] at h; exact h)
theorem Q.subN {t t2 : TypeId} {x y : Operand} {a b : Nat} (hx : ev env x = some (.int .i64 (a : Int))) (hy : ev env y = some (.int .i64 (b : Int))) (hr : b ≤ a ∧ a ≤ 9223372036854775807) (hd : Nat.blt d s.n = true) (h : wpQ P ops w Qn s rest ((d, .int .i64 ((a - b : Nat) : Int)) :: env)) : wpQ P ops w Qn s (⟨some d, .binOp .sub t x y t2, ty, pos, aft, none⟩ :: rest) env :=
  Q.sub' hx hy (by omega) hd (by rw [show ((a - b : Nat) : Int) = (a : Int) - (b : Int) by omega] at h; exact h)
theorem Y.addN {t t2 : TypeId} {x y : Operand} {a b : Nat} (hx : ev env x = some (.int .i64 (a : Int))) (hy : ev env y = some (.int .i64 (b : Int))) (hr : a + b ≤ 9223372036854775807) : Yld P ops s env w ⟨some d, .binOp .add t x y t2, ty, pos, aft, none⟩ (.int .i64 ((a + b : Nat) : Int)) := by
  rw [Int.natCast_add]
  exact Y.add hx hy (by rw [← Int.natCast_add]; omega)
theorem Y.mulN {t t2 : TypeId} {x y : Operand} {a b : Nat} (hx : ev env x = some (.int .i64 (a : Int))) (hy : ev env y = some (.int .i64 (b : Int))) (hr : a * b ≤ 9223372036854775807) : Yld P ops s env w ⟨some d, .binOp .mul t x y t2, ty, pos, aft, none⟩ (.int .i64 ((a * b : Nat) : Int)) := by
  rw [Int.natCast_mul]
  exact Y.mul hx hy (by rw [← Int.natCast_mul]; omega)
theorem Y.subN {t t2 : TypeId} {x y : Operand} {a b : Nat} (hx : ev env x = some (.int .i64 (a : Int))) (hy : ev env y = some (.int .i64 (b : Int))) (hr : b ≤ a ∧ a ≤ 9223372036854775807) : Yld P ops s env w ⟨some d, .binOp .sub t x y t2, ty, pos, aft, none⟩ (.int .i64 ((a - b : Nat) : Int)) := by
  rw [show ((a - b : Nat) : Int) = (a : Int) - (b : Int) by omega]
  exact Y.sub' hx hy (by omega)
/-- m[k], and no more -/
theorem E.lookup1 {α : Type} {t kt et : TypeId} {kk : IntKind} {enc : α → Value} {m : List (Int × α)} {r : Nat} {k : Int} {z : Value} {x y : Operand} (hx : ev env x = some (.map (some r))) (hy : ev env y = some (.int kk k)) (ht : P.underlying t = some (.map kt et)) (hk : P.underlying kt = some (.int kk)) (hz : (P.info? et).bind (·.zero) = some z) (hm : Mp w r kk enc m)
    (hd : Nat.blt d s.n = true) (h : wpE P ops Q s rest ((d, ((aget m k).map enc).getD z) :: env) w) : wpE P ops Q s (⟨some d, .lookup t x y false, ty, pos, aft, none⟩ :: rest) env w := E.lookup hx hy ht hk hz hm hd h
theorem Q.lookup1 {α : Type} {t kt et : TypeId} {kk : IntKind} {enc : α → Value} {m : List (Int × α)} {r : Nat} {k : Int} {z : Value} {x y : Operand} (hx : ev env x = some (.map (some r))) (hy : ev env y = some (.int kk k)) (ht : P.underlying t = some (.map kt et)) (hk : P.underlying kt = some (.int kk)) (hz : (P.info? et).bind (·.zero) = some z) (hm : Mp w r kk enc m)
    (hd : Nat.blt d s.n = true) (h : wpQ P ops w Qn s rest ((d, ((aget m k).map enc).getD z) :: env)) : wpQ P ops w Qn s (⟨some d, .lookup t x y false, ty, pos, aft, none⟩ :: rest) env := Q.lookup hx hy ht hk hz hm hd h
/-- v, ok := m[k] -/
theorem E.lookup2 {α : Type} {t kt et : TypeId} {kk : IntKind} {enc : α → Value} {m : List (Int × α)} {r : Nat} {k : Int} {z : Value} {x y : Operand} (hx : ev env x = some (.map (some r))) (hy : ev env y = some (.int kk k)) (ht : P.underlying t = some (.map kt et)) (hk : P.underlying kt = some (.int kk)) (hz : (P.info? et).bind (·.zero) = some z) (hm : Mp w r kk enc m)
    (hd : Nat.blt d s.n = true) (h : wpE P ops Q s rest ((d, .tuple #[((aget m k).map enc).getD z, .bool (aget m k).isSome]) :: env) w) : wpE P ops Q s (⟨some d, .lookup t x y true, ty, pos, aft, none⟩ :: rest) env w := E.lookup hx hy ht hk hz hm hd h
theorem Q.lookup2 {α : Type} {t kt et : TypeId} {kk : IntKind} {enc : α → Value} {m : List (Int × α)} {r : Nat} {k : Int} {z : Value} {x y : Operand} (hx : ev env x = some (.map (some r))) (hy : ev env y = some (.int kk k)) (ht : P.underlying t = some (.map kt et)) (hk : P.underlying kt = some (.int kk)) (hz : (P.info? et).bind (·.zero) = some z) (hm : Mp w r kk enc m)
    (hd : Nat.blt d s.n = true) (h : wpQ P ops w Qn s rest ((d, .tuple #[((aget m k).map enc).getD z, .bool (aget m k).isSome]) :: env)) : wpQ P ops w Qn s (⟨some d, .lookup t x y true, ty, pos, aft, none⟩ :: rest) env := Q.lookup hx hy ht hk hz hm hd h
end
end Go.Proofs.Ytnnmebpahickhaa.Sym
