/- Texts of the claim, laid together: LabelM. -/
import Derived.Test.YtnnmebpahickhaaComponentsSymmetricTopMg11
import Derived.Test.YtnnmebpahickhaaComponentsSymmetricTopMg12
import Derived.Test.YtnnmebpahickhaaComponentsSymmetricTopMg8
/- components: what Label keeps. -/
namespace Go.Proofs.Ytnnmebpahickhaa
set_option linter.unusedSimpArgs false
set_option linter.unusedVariables false
open Go.RowKit Sym Uf

theorem elem_Tapi_Blob : Elem Try.prog 38 7 56 := elem_of (z := .agg #[.int .i64 0, .int .i64 0, .int .i64 0, .int .i64 0, .int .i64 0, .int .i64 0, .int .i64 0]) (by kernel_rfl) rfl (by decide)
abbrev nilS : Value := .slice none 0 0
/-- the pixels of a colour; those that are joined -/
abbrev DD (dk : List Bool) (dark : Bool) (i : Nat) : Prop := dk[i]? = some dark
abbrev RR (W : Nat) (eight : Bool) (dk : List Bool) (dark : Bool) : Nat → Nat → Prop := Cl (Ed W eight dk dark dk.length)
/-- what Label answers -/
def LabelAns (W Ht : Int) (dk : List Bool) (eight : Bool) (v : Value) (w0 w : World) : Prop :=
  (¬ okMat W Ht dk.length ∧ v = .tuple #[nilS, nilS, i64 1]) ∨
  (okMat W Ht dk.length ∧ 65536 < nf (DD dk true) (RR W.toNat eight dk true) dk.length ∧ v = .tuple #[nilS, nilS, i64 4]) ∨
  (okMat W Ht dk.length ∧ nf (DD dk true) (RR W.toNat eight dk true) dk.length ≤ 65536 ∧ ∃ va vb lab bl, v = .tuple #[va, vb, i64 0] ∧ M w0 Nn w [Rg.sl i64 3 va lab, Rg.slF Bl.cells 7 38 vb bl] ∧ Labelled (DD dk true) (RR W.toNat eight dk true) W.toNat dk.length lab bl)
/-- the memory of Label -/
structure LW (w' : World) (B : Nat) (bm r : Nat) (va vs vd : Value) (W Ht : Int) (s : List Int) (lab : List Int) (m : List (Int × Int)) (vb : Value) (bl : List Bl) : Prop where
  hm : Blk w' bm 24 #[i64 W, i64 Ht, vd]
  ol : OwnL i64 w' B 3 va lab
  mp : Mp w' r .i32 i64 m
  ob : OwnF Bl.cells 7 w' B 38 vb bl
  os : OwnL i32 w' B 21 vs s
  rB : B ≤ r
  a1 : va.ownBlock ≠ some bm
  a2 : va.ownBlock ≠ some r
  b1 : vb.ownBlock ≠ some bm
  b2 : vb.ownBlock ≠ some r
  s1 : vs.ownBlock ≠ some r
  mr : bm ≠ r
  ab : Apart va vb
  avs : Apart va vs
  bvs : Apart vb vs
section
variable {w' w'' : World} {B bm r : Nat} {va vs vd : Value} {W Ht : Int} {s lab : List Int} {m : List (Int × Int)} {vb : Value} {bl : List Bl}
theorem LW.ext (h : LW w' B bm r va vs vd W Ht s lab m vb bl) (k : Ext w' w'') : LW w'' B bm r va vs vd W Ht s lab m vb bl :=
  { h with hm := h.hm.ext k, ol := h.ol.kept k, mp := h.mp.ext k, ob := h.ob.kept k, os := h.os.kept k }
theorem LW.put {m' : List (Int × Int)} (h : LW w' B bm r va vs vd W Ht s lab m vb bl) (g : w'.grownBy w'' (some r)) (hm : Mp w'' r .i32 i64 m') : LW w'' B bm r va vs vd W Ht s lab m' vb bl :=
  { h with hm := Blk.apart h.hm g (fun e => h.mr (Option.some.inj e).symm), ol := Own.other h.ol g (.inr h.a2), mp := hm, ob := h.ob.other g (.inr h.b2), os := Own.other h.os g (.inr h.s1) }
theorem LW.setL (h : LW w' B bm r va vs vd W Ht s lab m vb bl) {i : Nat} (hi : i < lab.length) (z : Int) : LW (w'.setCell (el va i) (i64 z)) B bm r va vs vd W Ht s (lab.set i z) m vb bl ∧ Fr B w' (w'.setCell (el va i) (i64 z)) := by
  obtain ⟨_, _, c3⟩ := h.ol.cellAt hi
  have g := grown_set w' (el va i) (i64 z)
  rw [← c3] at g
  exact ⟨{ h with hm := Blk.apart h.hm g h.a1, ol := h.ol.set hi z, mp := h.mp.other g (fun e => h.a2 e.symm), ob := h.ob.apart g h.ab, os := Own.apart h.os g h.avs }, Fr.own h.ol g⟩
theorem LW.blobs {bl' : List Bl} {vb' : Value} (h : LW w' B bm r va vs vd W Ht s lab m vb bl) (g : w'.grownBy w'' vb.ownBlock) (ho : OwnF Bl.cells 7 w'' B 38 vb' bl') (hl : Lies w' vb vb') : LW w'' B bm r va vs vd W Ht s lab m vb' bl' := by
  have hne : ∀ x, vb.ownBlock ≠ some x → x < w'.heap.size → vb'.ownBlock ≠ some x := fun x hx hlt e => by
    rcases hl with hl | ⟨y, hl, hge⟩
    · exact hx (hl ▸ e)
    · rw [hl] at e; have := Option.some.inj e; omega
  exact { h with hm := Blk.apart h.hm g h.b1, ol := Own.apart h.ol g h.ab.symm, mp := h.mp.other g (fun e => h.b2 e.symm), ob := ho, os := Own.apart h.os g h.bvs, b1 := hne _ h.b1 h.hm.lt, b2 := hne _ h.b2 h.mp.lt, ab := (h.ab.symm.grow hl h.ol).symm, bvs := h.bvs.grow hl h.os }
theorem LW.grown {bl' : List Bl} (h : LW w' B bm r va vs vd W Ht s lab m vb bl) (g : w'.grownBy w'' vb.ownBlock) (ho : OwnF Bl.cells 7 w'' B 38 vb bl') : LW w'' B bm r va vs vd W Ht s lab m vb bl' := h.blobs g ho (.inl rfl)
end
structure LG where
  k : Nat
  lab : List Int
  m : List (Int × Int)
  vb : Value
  bl : List Bl
/-- ahead of pixel k -/
structure LInv (D : Nat → Prop) (R : Nat → Nat → Prop) (W n : Nat) (s : List Int) (k : Nat) (lab : List Int) (m : List (Int × Int)) (bl : List Bl) : Prop where
  len : lab.length = n
  off : ∀ i : Nat, i < k → ¬ D i → lab[i]? = some (-1)
  on : ∀ i : Nat, i < k → D i → ∃ f, f ≤ i ∧ Fst D R f ∧ R f i ∧ lab[i]? = some (nf D R f : Int)
  has : ∀ f : Nat, f < k → Fst D R f → ∀ z, s[f]? = some z → aget m z = some (nf D R f : Int)
  of : ∀ z v, aget m z = some v → ∃ f : Nat, f < k ∧ Fst D R f ∧ s[f]? = some z ∧ v = (nf D R f : Int)
  num : bl.length = nf D R k
  few : nf D R k ≤ 65536
  blob : ∀ f, f < k → Fst D R f → ∃ b, bl[nf D R f]? = some b ∧ BSpec D R W f k b
theorem Parted.off' {W : Nat} {eight : Bool} {dk : List Bool} {s : List Int} (h : Parted W eight dk true s) {i : Nat} (hs : s[i]? = some (-1)) : ¬ DD dk true i := fun hd => by
  obtain ⟨r, _, h2⟩ := h.on i hd
  rw [hs] at h2; have := Option.some.inj h2; omega
theorem Parted.on' {W : Nat} {eight : Bool} {dk : List Bool} {s : List Int} (h : Parted W eight dk true s) {i : Nat} (hi : i < dk.length) (hs : s[i]? ≠ some (-1)) : DD dk true i := by
  cases hq : dk[i] with
  | true => show dk[i]? = _; rw [List.getElem?_eq_getElem hi, hq]
  | false => exact (hs (h.off i (by rw [List.getElem?_eq_getElem hi, hq]; rfl))).elim
theorem LInv.light {D : Nat → Prop} {R : Nat → Nat → Prop} {W n : Nat} {s : List Int} {k : Nat} {lab : List Int} {m : List (Int × Int)} {bl : List Bl} (h : LInv D R W n s k lab m bl) (hk : k < n) (hD : ¬ D k) : LInv D R W n s (k + 1) (lab.set k (-1)) m bl := by
  have hF : ¬ Fst D R k := fun hf => hD hf.1
  have hl : k < lab.length := by rw [h.len]; exact hk
  refine ⟨by rw [List.length_set]; exact h.len, fun i hi hd => ?_, fun i hi hd => ?_, fun f hf h1 => h.has f (by have : f ≠ k := fun e => hF (e ▸ h1); omega) h1, fun z v hz => ?_, by rw [nf_succ_neg hF]; exact h.num, by rw [nf_succ_neg hF]; exact h.few, fun f hf h1 => ?_⟩
  · by_cases e : i = k
    · subst e; rw [List.getElem?_set_self hl]
    · rw [List.getElem?_set_ne (fun h => e h.symm)]; exact h.off i (by omega) hd
  · have e : i ≠ k := fun e => hD (e ▸ hd)
    rw [List.getElem?_set_ne (fun h => e h.symm)]; exact h.on i (by omega) hd
  · obtain ⟨f, f1, f2⟩ := h.of z v hz; exact ⟨f, by omega, f2⟩
  · obtain ⟨b, b1, b2⟩ := h.blob f (by have : f ≠ k := fun e => hF (e ▸ h1); omega) h1
    exact ⟨b, b1, b2.skip fun e => hD e.1⟩
/-- between the number and the growing -/
structure LMid (D : Nat → Prop) (R : Nat → Nat → Prop) (W n : Nat) (s : List Int) (k : Nat) (m : List (Int × Int)) (bl : List Bl) (f : Nat) : Prop where
  fle : f ≤ k
  fst : Fst D R f
  rel : R f k
  has : ∀ f : Nat, f < k + 1 → Fst D R f → ∀ z, s[f]? = some z → aget m z = some (nf D R f : Int)
  of : ∀ z v, aget m z = some v → ∃ f : Nat, f < k + 1 ∧ Fst D R f ∧ s[f]? = some z ∧ v = (nf D R f : Int)
  num : bl.length = nf D R (k + 1)
  few : nf D R (k + 1) ≤ 65536
  blob : ∀ f, f < k → Fst D R f → ∃ b, bl[nf D R f]? = some b ∧ BSpec D R W f k b
  new : Fst D R k → bl[nf D R k]? = some ⟨((k % W : Nat) : Int), ((k / W : Nat) : Int), 1, 1, 0, ((k % W : Nat) : Int), ((k / W : Nat) : Int)⟩
section
variable {D : Nat → Prop} {R : Nat → Nat → Prop} {W n : Nat} {s : List Int} {k : Nat} {lab : List Int} {m : List (Int × Int)} {bl : List Bl}
theorem LInv.old (h : LInv D R W n s k lab m bl) (hR : ∀ i j z, D i → D j → s[i]? = some z → s[j]? = some z → R i j) (hD : D k) {z v : Int} (hz : s[k]? = some z) (hv : aget m z = some v) : ∃ f, LMid D R W n s k m bl f ∧ v = (nf D R f : Int) := by
  obtain ⟨f, f1, f2, f3, f4⟩ := h.of z v hv
  have hfk := hR f k z f2.1 hD f3 hz
  have hF : ¬ Fst D R k := fun hk => hk.2 f f1 f2.1 hfk
  refine ⟨f, ⟨by omega, f2, hfk, fun g hg g1 => h.has g (by have : g ≠ k := fun e => hF (e ▸ g1); omega) g1, fun z v hz => ?_, by rw [nf_succ_neg hF]; exact h.num, by rw [nf_succ_neg hF]; exact h.few, h.blob, fun hk => (hF hk).elim⟩, f4⟩
  obtain ⟨f, f1, f2⟩ := h.of z v hz; exact ⟨f, by omega, f2⟩
theorem LInv.isNew (h : LInv D R W n s k lab m bl) (hr : ∀ i, R i i) (ht : ∀ i j k, R i j → R j k → R i k) (hR' : ∀ i j z, D i → D j → s[i]? = some z → R i j → s[j]? = some z) (hs : ∀ i j, R i j → R j i) (hD : D k) {z : Int} (hz : s[k]? = some z) (hv : aget m z = none) : Fst D R k := by
  refine ⟨hD, fun j hj hDj hRj => ?_⟩
  obtain ⟨f, f1, f2, f3⟩ := first_of (D := D) hr ht j hDj
  have hfz : s[f]? = some z := hR' k f z hD f2.1 hz (hs _ _ (ht _ _ _ f3 hRj))
  rw [h.has f (by omega) f2 z hfz] at hv; cases hv
theorem LInv.fresh (h : LInv D R W n s k lab m bl) (hr : ∀ i, R i i) (hR' : ∀ i j z, D i → D j → s[i]? = some z → s[j]? = some z → R i j) (hF : Fst D R k) {z : Int} (hz : s[k]? = some z) (hfew : nf D R k < 65536) :
    LMid D R W n s k (aput m z (nf D R k : Int)) (bl ++ [⟨((k % W : Nat) : Int), ((k / W : Nat) : Int), 1, 1, 0, ((k % W : Nat) : Int), ((k / W : Nat) : Int)⟩]) k := by
  refine ⟨Nat.le_refl _, hF, hr k, fun f hf f1 y hy => ?_, fun y v hy => ?_, by rw [List.length_append, nf_succ_pos hF, h.num]; rfl, by rw [nf_succ_pos hF]; omega, fun f hf f1 => ?_, fun _ => by rw [List.getElem?_append_right (by rw [h.num]; exact Nat.le_refl _), h.num]; simp⟩
  · rw [aget_aput]
    by_cases e : f = k
    · subst e; rw [hz] at hy; cases hy; rw [if_pos rfl]
    · by_cases ez : y = z
      · subst ez; exact (hF.2 f (by omega) f1.1 (hR' f k y f1.1 hF.1 hy hz)).elim
      · rw [if_neg ez]; exact h.has f (by omega) f1 y hy
  · rw [aget_aput] at hy
    by_cases ez : y = z
    · rw [if_pos ez] at hy; cases hy; subst ez; exact ⟨k, by omega, hF, hz, rfl⟩
    · rw [if_neg ez] at hy
      obtain ⟨f, f1, f2⟩ := h.of y v hy; exact ⟨f, by omega, f2⟩
  · obtain ⟨b, b1, b2⟩ := h.blob f hf f1
    exact ⟨b, by rw [List.getElem?_append_left (List.getElem?_eq_some_iff.1 b1).1]; exact b1, b2⟩
/-- the blob that grows -/
theorem LMid.now {f : Nat} (h : LMid D R W n s k m bl f) (hs : ∀ i j, R i j → R j i) (hk : k < 4194304) (hW : W ≤ 4096) (hW0 : 0 < W) : ∃ b, bl[nf D R f]? = some b ∧ b.small := by
  by_cases e : f = k
  · subst e
    refine ⟨_, h.new h.fst, ?_⟩
    have := Nat.mod_lt f hW0; have := Nat.div_le_self f W
    unfold Bl.small
    simp only
    generalize f % W = a at *
    generalize f / W = c at *
    omega
  · obtain ⟨b, b1, b2⟩ := h.blob f (by have := h.fle; omega) h.fst
    exact ⟨b, b1, b2.small hs h.fst (by have := h.fle; omega) (by omega)⟩
theorem LMid.next {f : Nat} (h : LMid D R W n s k m bl f) (hI : lab.length = n) (hoff : ∀ i : Nat, i < k → ¬ D i → lab[i]? = some (-1)) (hon : ∀ i : Nat, i < k → D i → ∃ f, f ≤ i ∧ Fst D R f ∧ R f i ∧ lab[i]? = some (nf D R f : Int)) (hr : ∀ i, R i i) (hs : ∀ i j, R i j → R j i) (ht : ∀ i j k, R i j → R j k → R i k) (hk : k < n) (hD : D k) {b : Bl} (hb : bl[nf D R f]? = some b) :
    LInv D R W n s (k + 1) (lab.set k (nf D R f : Int)) m (bl.set (nf D R f) (b.add ((k % W : Nat) : Int) ((k / W : Nat) : Int))) := by
  have hl : k < lab.length := by omega
  have hbl : nf D R f < bl.length := (List.getElem?_eq_some_iff.1 hb).1
  refine ⟨by rw [List.length_set]; exact hI, fun i hi hd => ?_, fun i hi hd => ?_, h.has, h.of, by rw [List.length_set]; exact h.num, h.few, fun g hg g1 => ?_⟩
  · have e : i ≠ k := fun e => hd (e ▸ hD)
    rw [List.getElem?_set_ne (fun h => e h.symm)]; exact hoff i (by omega) hd
  · by_cases e : i = k
    · subst e; exact ⟨f, h.fle, h.fst, h.rel, by rw [List.getElem?_set_self hl]⟩
    · rw [List.getElem?_set_ne (fun h => e h.symm)]; exact hon i (by omega) hd
  · by_cases e : g = f
    · subst e
      refine ⟨_, by rw [List.getElem?_set_self hbl], ?_⟩
      by_cases ek : g = k
      · subst ek
        have := h.new h.fst
        rw [hb] at this; cases this
        exact BSpec.new hr hs h.fst
      · obtain ⟨c, c1, c2⟩ := h.blob g (by omega) g1
        rw [hb] at c1; cases c1
        exact c2.add hD h.rel (Nat.div_le_div_right (by omega))
    · have hne : nf D R f ≠ nf D R g := fun e' => e (nf_inj g1 h.fst e'.symm)
      have hgk : g ≠ k := fun ek => by
        subst ek
        exact e (first_eq hs ht g1 h.fst (hr g) h.rel)
      obtain ⟨c, c1, c2⟩ := h.blob g (by omega) g1
      exact ⟨c, by rw [List.getElem?_set_ne hne]; exact c1, c2.skip fun e' => e (first_eq hs ht g1 h.fst e'.2 h.rel)⟩
end

end Go.Proofs.Ytnnmebpahickhaa
