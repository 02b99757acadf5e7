/- Texts of the claim, laid together: LabelM, RBlob, PartsM, Parts. -/
import Derived.Test.YtbinlkobmlebpaaB0
import Derived.Test.YtbinlkobmlebpaaB4
import Derived.Test.YtbinlkobmlebpaaB13
import Derived.Test.YtbinlkobmlebpaaB14
set_option linter.unusedSimpArgs false
set_option linter.unusedVariables false
namespace Go.Proofs.Ytbinlkobmlebpaa
open Go.RowKit Sym Uf
theorem elem_Tapi_Blob : Elem Try.prog 73 7 56 := elem_of (z := .agg #[.int .i64 0, .int .i64 0, .int .i64 0, .int .i64 0, .int .i64 0, .int .i64 0, .int .i64 0]) (by kernel_rfl) rfl (by decide)
abbrev nilS : Value := .slice none 0 0
abbrev DD (dk : List Bool) (dark : Bool) (i : Nat) : Prop := dk[i]? = some dark
abbrev RR (W : Nat) (eight : Bool) (dk : List Bool) (dark : Bool) : Nat → Nat → Prop := Cl (Ed W eight dk dark dk.length)
def LabelAns (W Ht : Int) (dk : List Bool) (eight : Bool) (v : Value) (w0 w : World) : Prop :=
 (¬ okMat W Ht dk.length ∧ v = .tuple #[nilS, nilS, i64 1]) ∨
 (okMat W Ht dk.length ∧ 65536 < nf (DD dk true) (RR W.toNat eight dk true) dk.length ∧ v = .tuple #[nilS, nilS, i64 4]) ∨
 (okMat W Ht dk.length ∧ nf (DD dk true) (RR W.toNat eight dk true) dk.length ≤ 65536 ∧ ∃ va vb lab bl, v = .tuple #[va, vb, i64 0] ∧ M w0 Nn w [Rg.sl i64 3 va lab, Rg.slF Bl.cells 7 73 vb bl] ∧ Labelled (DD dk true) (RR W.toNat eight dk true) W.toNat dk.length lab bl)
structure LW (w' : World) (B : Nat) (bm r : Nat) (va vs vd : Value) (W Ht : Int) (s : List Int) (lab : List Int) (m : List (Int × Int)) (vb : Value) (bl : List Bl) : Prop where
 hm : Blk w' bm 37 #[i64 W, i64 Ht, vd]
 ol : OwnL i64 w' B 3 va lab
 mp : Mp w' r .i32 i64 m
 ob : OwnF Bl.cells 7 w' B 73 vb bl
 os : OwnL i32 w' B 21 vs s
 rB : B ≤ r
 a1 : va.ownBlock ≠ some bm
 a2 : va.ownBlock ≠ some r
 b1 : vb.ownBlock ≠ some bm
 b2 : vb.ownBlock ≠ some r
 s1 : vs.ownBlock ≠ some r
 mr : bm ≠ r
 ab : Apart va vb
 avs : Apart va vs
 bvs : Apart vb vs
section
variable {w' w'' : World} {B bm r : Nat} {va vs vd : Value} {W Ht : Int} {s lab : List Int} {m : List (Int × Int)} {vb : Value} {bl : List Bl}
theorem LW.ext (h : LW w' B bm r va vs vd W Ht s lab m vb bl) (k : Ext w' w'') : LW w'' B bm r va vs vd W Ht s lab m vb bl :=
 { h with hm := h.hm.ext k, ol := h.ol.kept k, mp := h.mp.ext k, ob := h.ob.kept k, os := h.os.kept k }
theorem LW.put {m' : List (Int × Int)} (h : LW w' B bm r va vs vd W Ht s lab m vb bl) (g : w'.grownBy w'' (some r)) (hm : Mp w'' r .i32 i64 m') : LW w'' B bm r va vs vd W Ht s lab m' vb bl :=
 { h with hm := Blk.apart h.hm g (fun e => h.mr (Option.some.inj e).symm), ol := Own.other h.ol g (.inr h.a2), mp := hm, ob := h.ob.other g (.inr h.b2), os := Own.other h.os g (.inr h.s1) }
theorem LW.setL (h : LW w' B bm r va vs vd W Ht s lab m vb bl) {i : Nat} (hi : i < lab.length) (z : Int) : LW (w'.setCell (el va i) (i64 z)) B bm r va vs vd W Ht s (lab.set i z) m vb bl ∧ Fr B w' (w'.setCell (el va i) (i64 z)) := by
 obtain ⟨_, _, c3⟩ := h.ol.cellAt hi
 have g := grown_set w' (el va i) (i64 z)
 rw [← c3] at g
 exact ⟨{ h with hm := Blk.apart h.hm g h.a1, ol := h.ol.set hi z, mp := h.mp.other g (fun e => h.a2 e.symm), ob := h.ob.apart g h.ab, os := Own.apart h.os g h.avs }, Fr.own h.ol g⟩
theorem LW.blobs {bl' : List Bl} {vb' : Value} (h : LW w' B bm r va vs vd W Ht s lab m vb bl) (g : w'.grownBy w'' vb.ownBlock) (ho : OwnF Bl.cells 7 w'' B 73 vb' bl') (hl : Lies w' vb vb') : LW w'' B bm r va vs vd W Ht s lab m vb' bl' := by
 have hne : ∀ x, vb.ownBlock ≠ some x → x < w'.heap.size → vb'.ownBlock ≠ some x := fun x hx hlt e => by
  rcases hl with hl | ⟨y, hl, hge⟩
  · exact hx (hl ▸ e)
  · rw [hl] at e; have := Option.some.inj e; omega
 exact { h with hm := Blk.apart h.hm g h.b1, ol := Own.apart h.ol g h.ab.symm, mp := h.mp.other g (fun e => h.b2 e.symm), ob := ho, os := Own.apart h.os g h.bvs, b1 := hne _ h.b1 h.hm.lt, b2 := hne _ h.b2 h.mp.lt, ab := (h.ab.symm.grow hl h.ol).symm, bvs := h.bvs.grow hl h.os }
theorem LW.grown {bl' : List Bl} (h : LW w' B bm r va vs vd W Ht s lab m vb bl) (g : w'.grownBy w'' vb.ownBlock) (ho : OwnF Bl.cells 7 w'' B 73 vb bl') : LW w'' B bm r va vs vd W Ht s lab m vb bl' := h.blobs g ho (.inl rfl)
end
structure LG where
 k : Nat
 lab : List Int
 m : List (Int × Int)
 vb : Value
 bl : List Bl
structure LInv (D : Nat → Prop) (R : Nat → Nat → Prop) (W n : Nat) (s : List Int) (k : Nat) (lab : List Int) (m : List (Int × Int)) (bl : List Bl) : Prop where
 len : lab.length = n
 off : ∀ i : Nat, i < k → ¬ D i → lab[i]? = some (-1)
 on : ∀ i : Nat, i < k → D i → ∃ f, f ≤ i ∧ Fst D R f ∧ R f i ∧ lab[i]? = some (nf D R f : Int)
 has : ∀ f : Nat, f < k → Fst D R f → ∀ z, s[f]? = some z → aget m z = some (nf D R f : Int)
 of : ∀ z v, aget m z = some v → ∃ f : Nat, f < k ∧ Fst D R f ∧ s[f]? = some z ∧ v = (nf D R f : Int)
 num : bl.length = nf D R k
 few : nf D R k ≤ 65536
 blob : ∀ f, f < k → Fst D R f → ∃ b, bl[nf D R f]? = some b ∧ BSpec D R W f k b
theorem Parted.off' {W : Nat} {eight : Bool} {dk : List Bool} {s : List Int} (h : Parted W eight dk true s) {i : Nat} (hs : s[i]? = some (-1)) : ¬ DD dk true i := fun hd => by
 obtain ⟨r, _, h2⟩ := h.on i hd
 rw [hs] at h2; have := Option.some.inj h2; omega
theorem Parted.on' {W : Nat} {eight : Bool} {dk : List Bool} {s : List Int} (h : Parted W eight dk true s) {i : Nat} (hi : i < dk.length) (hs : s[i]? ≠ some (-1)) : DD dk true i := by
 cases hq : dk[i] with
 | true => show dk[i]? = _; rw [List.getElem?_eq_getElem hi, hq]
 | false => exact (hs (h.off i (by rw [List.getElem?_eq_getElem hi, hq]; rfl))).elim
theorem LInv.light {D : Nat → Prop} {R : Nat → Nat → Prop} {W n : Nat} {s : List Int} {k : Nat} {lab : List Int} {m : List (Int × Int)} {bl : List Bl} (h : LInv D R W n s k lab m bl) (hk : k < n) (hD : ¬ D k) : LInv D R W n s (k + 1) (lab.set k (-1)) m bl := by
  have hF : ¬ Fst D R k := fun hf => hD hf.1
  have hl : k < lab.length := by rw [h.len]; exact hk
  refine ⟨by rw [List.length_set]; exact h.len, fun i hi hd => ?_, fun i hi hd => ?_, fun f hf h1 => h.has f (by have : f ≠ k := fun e => hF (e ▸ h1); omega) h1, fun z v hz => ?_, by rw [nf_succ_neg hF]; exact h.num, by rw [nf_succ_neg hF]; exact h.few, fun f hf h1 => ?_⟩
  · by_cases e : i = k
    · subst e; rw [List.getElem?_set_self hl]
    · rw [List.getElem?_set_ne (fun h => e h.symm)]; exact h.off i (by omega) hd
  · have e : i ≠ k := fun e => hD (e ▸ hd)
    rw [List.getElem?_set_ne (fun h => e h.symm)]; exact h.on i (by omega) hd
  · obtain ⟨f, f1, f2⟩ := h.of z v hz; exact ⟨f, by omega, f2⟩
  · obtain ⟨b, b1, b2⟩ := h.blob f (by have : f ≠ k := fun e => hF (e ▸ h1); omega) h1
    exact ⟨b, b1, b2.skip fun e => hD e.1⟩
structure LMid (D : Nat → Prop) (R : Nat → Nat → Prop) (W n : Nat) (s : List Int) (k : Nat) (m : List (Int × Int)) (bl : List Bl) (f : Nat) : Prop where
 fle : f ≤ k
 fst : Fst D R f
 rel : R f k
 has : ∀ f : Nat, f < k + 1 → Fst D R f → ∀ z, s[f]? = some z → aget m z = some (nf D R f : Int)
 of : ∀ z v, aget m z = some v → ∃ f : Nat, f < k + 1 ∧ Fst D R f ∧ s[f]? = some z ∧ v = (nf D R f : Int)
 num : bl.length = nf D R (k + 1)
 few : nf D R (k + 1) ≤ 65536
 blob : ∀ f, f < k → Fst D R f → ∃ b, bl[nf D R f]? = some b ∧ BSpec D R W f k b
 new : Fst D R k → bl[nf D R k]? = some ⟨((k % W : Nat) : Int), ((k / W : Nat) : Int), 1, 1, 0, ((k % W : Nat) : Int), ((k / W : Nat) : Int)⟩
section
variable {D : Nat → Prop} {R : Nat → Nat → Prop} {W n : Nat} {s : List Int} {k : Nat} {lab : List Int} {m : List (Int × Int)} {bl : List Bl}
theorem LInv.old (h : LInv D R W n s k lab m bl) (hR : ∀ i j z, D i → D j → s[i]? = some z → s[j]? = some z → R i j) (hD : D k) {z v : Int} (hz : s[k]? = some z) (hv : aget m z = some v) : ∃ f, LMid D R W n s k m bl f ∧ v = (nf D R f : Int) := by
 obtain ⟨f, f1, f2, f3, f4⟩ := h.of z v hv
 have hfk := hR f k z f2.1 hD f3 hz
 have hF : ¬ Fst D R k := fun hk => hk.2 f f1 f2.1 hfk
 refine ⟨f, ⟨by omega, f2, hfk, fun g hg g1 => h.has g (by have : g ≠ k := fun e => hF (e ▸ g1); omega) g1, fun z v hz => ?_, by rw [nf_succ_neg hF]; exact h.num, by rw [nf_succ_neg hF]; exact h.few, h.blob, fun hk => (hF hk).elim⟩, f4⟩
 obtain ⟨f, f1, f2⟩ := h.of z v hz; exact ⟨f, by omega, f2⟩
theorem LInv.isNew (h : LInv D R W n s k lab m bl) (hr : ∀ i, R i i) (ht : ∀ i j k, R i j → R j k → R i k) (hR' : ∀ i j z, D i → D j → s[i]? = some z → R i j → s[j]? = some z) (hs : ∀ i j, R i j → R j i) (hD : D k) {z : Int} (hz : s[k]? = some z) (hv : aget m z = none) : Fst D R k := by
 refine ⟨hD, fun j hj hDj hRj => ?_⟩
 obtain ⟨f, f1, f2, f3⟩ := first_of (D := D) hr ht j hDj
 have hfz : s[f]? = some z := hR' k f z hD f2.1 hz (hs _ _ (ht _ _ _ f3 hRj))
 rw [h.has f (by omega) f2 z hfz] at hv; cases hv
theorem LInv.fresh (h : LInv D R W n s k lab m bl) (hr : ∀ i, R i i) (hR' : ∀ i j z, D i → D j → s[i]? = some z → s[j]? = some z → R i j) (hF : Fst D R k) {z : Int} (hz : s[k]? = some z) (hfew : nf D R k < 65536) :
    LMid D R W n s k (aput m z (nf D R k : Int)) (bl ++ [⟨((k % W : Nat) : Int), ((k / W : Nat) : Int), 1, 1, 0, ((k % W : Nat) : Int), ((k / W : Nat) : Int)⟩]) k := by
  refine ⟨Nat.le_refl _, hF, hr k, fun f hf f1 y hy => ?_, fun y v hy => ?_, by rw [List.length_append, nf_succ_pos hF, h.num]; rfl, by rw [nf_succ_pos hF]; omega, fun f hf f1 => ?_, fun _ => by rw [List.getElem?_append_right (by rw [h.num]; exact Nat.le_refl _), h.num]; simp⟩
  · rw [aget_aput]
    by_cases e : f = k
    · subst e; rw [hz] at hy; cases hy; rw [if_pos rfl]
    · by_cases ez : y = z
      · subst ez; exact (hF.2 f (by omega) f1.1 (hR' f k y f1.1 hF.1 hy hz)).elim
      · rw [if_neg ez]; exact h.has f (by omega) f1 y hy
  · rw [aget_aput] at hy
    by_cases ez : y = z
    · rw [if_pos ez] at hy; cases hy; subst ez; exact ⟨k, by omega, hF, hz, rfl⟩
    · rw [if_neg ez] at hy
      obtain ⟨f, f1, f2⟩ := h.of y v hy; exact ⟨f, by omega, f2⟩
  · obtain ⟨b, b1, b2⟩ := h.blob f hf f1
    exact ⟨b, by rw [List.getElem?_append_left (List.getElem?_eq_some_iff.1 b1).1]; exact b1, b2⟩
theorem LMid.now {f : Nat} (h : LMid D R W n s k m bl f) (hs : ∀ i j, R i j → R j i) (hk : k < 4194304) (hW : W ≤ 4096) (hW0 : 0 < W) : ∃ b, bl[nf D R f]? = some b ∧ b.small := by
  by_cases e : f = k
  · subst e
    refine ⟨_, h.new h.fst, ?_⟩
    have := Nat.mod_lt f hW0; have := Nat.div_le_self f W
    unfold Bl.small
    simp only
    generalize f % W = a at *
    generalize f / W = c at *
    omega
  · obtain ⟨b, b1, b2⟩ := h.blob f (by have := h.fle; omega) h.fst
    exact ⟨b, b1, b2.small hs h.fst (by have := h.fle; omega) (by omega)⟩
theorem LMid.next {f : Nat} (h : LMid D R W n s k m bl f) (hI : lab.length = n) (hoff : ∀ i : Nat, i < k → ¬ D i → lab[i]? = some (-1)) (hon : ∀ i : Nat, i < k → D i → ∃ f, f ≤ i ∧ Fst D R f ∧ R f i ∧ lab[i]? = some (nf D R f : Int)) (hr : ∀ i, R i i) (hs : ∀ i j, R i j → R j i) (ht : ∀ i j k, R i j → R j k → R i k) (hk : k < n) (hD : D k) {b : Bl} (hb : bl[nf D R f]? = some b) :
    LInv D R W n s (k + 1) (lab.set k (nf D R f : Int)) m (bl.set (nf D R f) (b.add ((k % W : Nat) : Int) ((k / W : Nat) : Int))) := by
  have hl : k < lab.length := by omega
  have hbl : nf D R f < bl.length := (List.getElem?_eq_some_iff.1 hb).1
  refine ⟨by rw [List.length_set]; exact hI, fun i hi hd => ?_, fun i hi hd => ?_, h.has, h.of, by rw [List.length_set]; exact h.num, h.few, fun g hg g1 => ?_⟩
  · have e : i ≠ k := fun e => hd (e ▸ hD)
    rw [List.getElem?_set_ne (fun h => e h.symm)]; exact hoff i (by omega) hd
  · by_cases e : i = k
    · subst e; exact ⟨f, h.fle, h.fst, h.rel, by rw [List.getElem?_set_self hl]⟩
    · rw [List.getElem?_set_ne (fun h => e h.symm)]; exact hon i (by omega) hd
  · by_cases e : g = f
    · subst e
      refine ⟨_, by rw [List.getElem?_set_self hbl], ?_⟩
      by_cases ek : g = k
      · subst ek
        have := h.new h.fst
        rw [hb] at this; cases this
        exact BSpec.new hr hs h.fst
      · obtain ⟨c, c1, c2⟩ := h.blob g (by omega) g1
        rw [hb] at c1; cases c1
        exact c2.add hD h.rel (Nat.div_le_div_right (by omega))
    · have hne : nf D R f ≠ nf D R g := fun e' => e (nf_inj g1 h.fst e'.symm)
      have hgk : g ≠ k := fun ek => by
        subst ek
        exact e (first_eq hs ht g1 h.fst (hr g) h.rel)
      obtain ⟨c, c1, c2⟩ := h.blob g (by omega) g1
      exact ⟨c, by rw [List.getElem?_set_ne hne]; exact c1, c2.skip fun e' => e (first_eq hs ht g1 h.fst e'.2 h.rel)⟩
end
end Go.Proofs.Ytbinlkobmlebpaa
namespace Go.Proofs.Ytbinlkobmlebpaa
open Go.RowKit Sym Uf
structure Bx (W H : Nat) (pl : List Nat) (i : Nat) (x0 y0 x1 y1 : Int) : Prop where
 z : i = 0 → x0 = W ∧ y0 = H ∧ x1 = -1 ∧ y1 = -1
 all : ∀ j p : Nat, j < i → pl[j]? = some p → x0 ≤ ((p % W : Nat) : Int) ∧ ((p % W : Nat) : Int) ≤ x1 ∧ y0 ≤ ((p / W : Nat) : Int) ∧ ((p / W : Nat) : Int) ≤ y1
 l : 0 < i → ∃ p ∈ pl, ((p % W : Nat) : Int) = x0
 r : 0 < i → ∃ p ∈ pl, ((p % W : Nat) : Int) = x1
 t : 0 < i → ∃ p ∈ pl, ((p / W : Nat) : Int) = y0
 b : 0 < i → ∃ p ∈ pl, ((p / W : Nat) : Int) = y1
theorem Bx.start (W H : Nat) (pl : List Nat) : Bx W H pl 0 W H (-1) (-1) := ⟨fun _ => ⟨rfl, rfl, rfl, rfl⟩, fun j p hj => by omega, fun h => by omega, fun h => by omega, fun h => by omega, fun h => by omega⟩
theorem Bx.step {W H : Nat} {pl : List Nat} {i : Nat} {x0 y0 x1 y1 : Int} (h : Bx W H pl i x0 y0 x1 y1) {p : Nat} (hp : pl[i]? = some p) (hx : p % W < W) (hy : p / W < H) : Bx W H pl (i + 1) (min x0 ((p % W : Nat) : Int)) (min y0 ((p / W : Nat) : Int)) (max x1 ((p % W : Nat) : Int)) (max y1 ((p / W : Nat) : Int)) := by
  have hm : p ∈ pl := List.mem_of_getElem? hp
  have hz := h.z
  generalize hX : p % W = X at *
  generalize hY : p / W = Y at *
  refine ⟨fun h => by omega, fun j q hj hq => ?_, fun _ => ?_, fun _ => ?_, fun _ => ?_, fun _ => ?_⟩
  · by_cases e : j = i
    · subst e; rw [hp] at hq; cases hq; rw [hX, hY]; omega
    · have := h.all j q (by omega) hq; omega
  · by_cases e : i = 0
    · exact ⟨p, hm, by rw [hX]; have := hz e; omega⟩
    · obtain ⟨q, q1, q2⟩ := h.l (by omega)
      by_cases c : ((p % W : Nat) : Int) ≤ x0
      · exact ⟨p, hm, by rw [hX]; omega⟩
      · exact ⟨q, q1, by omega⟩
  · by_cases e : i = 0
    · exact ⟨p, hm, by rw [hX]; have := hz e; omega⟩
    · obtain ⟨q, q1, q2⟩ := h.r (by omega)
      by_cases c : x1 ≤ ((p % W : Nat) : Int)
      · exact ⟨p, hm, by rw [hX]; omega⟩
      · exact ⟨q, q1, by omega⟩
  · by_cases e : i = 0
    · exact ⟨p, hm, by rw [hY]; have := hz e; omega⟩
    · obtain ⟨q, q1, q2⟩ := h.t (by omega)
      by_cases c : ((p / W : Nat) : Int) ≤ y0
      · exact ⟨p, hm, by rw [hY]; omega⟩
      · exact ⟨q, q1, by omega⟩
  · by_cases e : i = 0
    · exact ⟨p, hm, by rw [hY]; have := hz e; omega⟩
    · obtain ⟨q, q1, q2⟩ := h.b (by omega)
      by_cases c : y1 ≤ ((p / W : Nat) : Int)
      · exact ⟨p, hm, by rw [hY]; omega⟩
      · exact ⟨q, q1, by omega⟩
set_option maxHeartbeats 1000000 in
theorem rblob_ret (W Ht : Nat) (vd vp : Value) (pl : List Nat) (w : World) (hW : 1 ≤ W ∧ W ≤ 4096) (hH : 1 ≤ Ht ∧ Ht ≤ 4096) (hr : RdL px w vp pl) (h0 : 0 < pl.length) (hlen : pl.length ≤ 4194304) (hin : ∀ p ∈ pl, p < W * Ht) :
  Ret Try.prog 93 #[mat W Ht vd, vp] w fun v w' => ∃ b : Bl, v = .agg b.cells.toArray ∧ Bx W Ht pl pl.length b.x b.y (b.x + b.w - 1) (b.y + b.h - 1) ∧ b.area = pl.length ∧ b.fx = ((pl[0] % W : Nat) : Int) ∧ b.fy = ((pl[0] / W : Nat) : Int) ∧ M w Nn w' [] := by
 have hM := M.start w
 refine enter Try.func93 rfl (by kernel_rfl) Try.ntmps93 rfl ?_
 refine C.seq <| C.region <| ?_
 refine E.boxM hM rfl rfl rfl ?_
 intro b2 w0 hM
 try dsimp only [Za, Zb, Zc, Zd, repl] at hM
 refine E.allocM (z := .agg #[.int .i64 0, .int .i64 0, .int .i64 0, .int .i64 0, .int .i64 0, .int .i64 0, .int .i64 0]) (cs := [.int .i64 0, .int .i64 0, .int .i64 0, .int .i64 0, .int .i64 0, .int .i64 0, .int .i64 0]) hM (by kernel_rfl) rfl rfl ?_
 intro b4 w1 hM
 try dsimp only [Za, Zb, Zc, Zd, repl] at hM
 refine E.nil <| X.next <| C.seq <| C.drawn (by kernel_rfl) (by kernel_rfl) <| ?_
 refine Q.fld (o := 0) (sz := 0) rfl Try.underlying37 rfl rfl (by kernel_rfl) rfl ?_
 refine Q.load rfl Try.underlying3 rfl (by exact hM.bcell 0 rfl rfl) rfl ?_
 refine Q.fld (o := 1) (sz := 0) rfl Try.underlying37 rfl rfl (by kernel_rfl) rfl ?_
 refine Q.load rfl Try.underlying3 rfl (by exact hM.bcell 0 rfl rfl) rfl ?_
 refine Q.asg rfl rfl <| Q.asg rfl rfl <| Q.asg rfl rfl <| Q.asg rfl rfl <| Q.nil <| fun w2 hx2 => ?_
 have hM := hM.ext hx2
 refine X.next <| C.seq <| C.seq <| C.region <| E.asg rfl rfl <| E.nil <| X.next <| C.block <| ?_

 refine C.loop5 [(1, _), (2, _), (4, _)] rfl (fun (x0 : Int) (y0 : Int) (x1 : Int) (y1 : Int) (i : Nat) => [(5, i64 x0), (6, i64 y0), (7, i64 x1), (8, i64 y1), (9, i64 i)]) (fun (x0 : Int) (y0 : Int) (x1 : Int) (y1 : Int) (i : Nat) w' => M w (Nn) w' [Rg.blk b2 37 [i64 W, i64 Ht, vd], Rg.blk b4 73 [i64 0, i64 0, i64 0, i64 0, i64 0, i64 0, i64 0]] ∧ i ≤ pl.length ∧ Bx W Ht pl i x0 y0 x1 y1) (fun (x0 : Int) (y0 : Int) (x1 : Int) (y1 : Int) (i : Nat) => pl.length - i) (W : Int) (Ht : Int) (-1) (-1) 0 ?_ ?_ ?_
 · exact Sub.cons rfl <| Sub.cons rfl <| Sub.cons rfl <| Sub.cons rfl <| Sub.cons rfl <| Sub.nil _
 · exact ⟨hM, Nat.zero_le _, Bx.start W Ht pl⟩
 rintro x0 y0 x1 y1 i w3 ⟨hM, hi, hB⟩
 refine C.seq <| C.seq <| C.region <| E.mv rfl rfl <| E.mv rfl rfl <| ?_
 refine E.lenv rfl (Rd.shape (by exact hM.arg0 (by assumption))) Try.underlying45 rfl ?_
 refine E.bin rfl rfl rfl rfl <| E.nil <| X.next <| ?_
 refine C.cond' rfl (fun hC0 => ?_) (fun hC0 => ?_)
 ·
  have hi' : i < pl.length := by omega
  have hp := hin _ (List.getElem_mem hi')
  have hmod : pl[i] % W < W := Nat.mod_lt _ (by omega)
  have hdiv : pl[i] / W < Ht := Nat.div_lt_of_lt_mul hp
  have hWH := Nat.mul_le_mul hW.2 hH.2
  refine C.skip <| X.next <| C.seq <| C.block <| C.seq <| C.drawn (by kernel_rfl) (by kernel_rfl) <| Q.mv rfl rfl <| Q.mv rfl rfl <| ?_
  refine Q.idx1 (k := _) rfl rfl (by exact hM.arg0 (by assumption)) rfl (by omega) Try.underlying45 (by kernel_rfl) rfl ?_
  refine Q.load rfl Try.underlying3 rfl (by exact (hM.arg0 (by assumption)).cellA rfl (by omega)) rfl ?_
  refine Q.fld (o := 0) (sz := 0) rfl Try.underlying37 rfl rfl (by kernel_rfl) rfl ?_
  refine Q.load rfl Try.underlying3 rfl (by exact hM.bcell 0 rfl rfl) rfl ?_
  refine Q.rem rfl rfl (by omega) (IntWalk.rem_in _ _ (by omega)) rfl ?_
  refine Q.mv rfl rfl <| Q.mv rfl rfl <| ?_
  refine Q.idx1 (k := _) rfl rfl (by exact hM.arg0 (by assumption)) rfl (by omega) Try.underlying45 (by kernel_rfl) rfl ?_
  refine Q.load rfl Try.underlying3 rfl (by exact (hM.arg0 (by assumption)).cellA rfl (by omega)) rfl ?_
  refine Q.fld (o := 0) (sz := 0) rfl Try.underlying37 rfl rfl (by kernel_rfl) rfl ?_
  refine Q.load rfl Try.underlying3 rfl (by exact hM.bcell 0 rfl rfl) rfl ?_
  refine Q.quo rfl rfl (by omega) (IntWalk.i64_quo _ _ (by omega)) rfl ?_
  refine Q.asg rfl rfl <| Q.asg rfl rfl <| Q.nil <| fun w4 hx4 => ?_
  have hM := hM.ext hx4
  refine X.next <| C.region <| E.mv rfl rfl <| E.mv rfl rfl <| E.min2 rfl rfl rfl <| E.mv rfl rfl <| E.mv rfl rfl <| E.min2 rfl rfl rfl <| E.mv rfl rfl <| E.mv rfl rfl <| E.max2 rfl rfl rfl <| E.mv rfl rfl <| E.mv rfl rfl <| E.max2 rfl rfl rfl <| E.asg rfl rfl <| E.asg rfl rfl <| E.asg rfl rfl <| E.asg rfl rfl <| E.nil <| X.outN <| X.next <| C.region <| E.mv rfl rfl <| ?_
  refine E.add rfl rfl (by omega) rfl ?_

  refine E.asg rfl rfl <| E.nil <| X.again5 _ _ _ _ (i + 1) (Sub.cons rfl <| Sub.cons rfl <| Sub.cons rfl <| Sub.cons rfl <| Sub.cons rfl <| Sub.nil _) rfl ⟨hM, by omega, hB.step (List.getElem?_eq_getElem hi') hmod hdiv⟩ (by omega)
 ·
  obtain rfl : i = pl.length := by omega
  obtain ⟨p1, m1, e1⟩ := hB.l h0
  obtain ⟨p2, m2, e2⟩ := hB.r h0
  obtain ⟨p3, m3, e3⟩ := hB.t h0
  obtain ⟨p4, m4, e4⟩ := hB.b h0
  have l1 := Nat.mod_lt p1 (show 0 < W by omega)
  have l2 := Nat.mod_lt p2 (show 0 < W by omega)
  have l3 := Nat.div_lt_of_lt_mul (hin p3 m3)
  have l4 := Nat.div_lt_of_lt_mul (hin p4 m4)
  have q3 : 0 ≤ y0 := e3 ▸ Int.natCast_nonneg _
  have q4 : 0 ≤ y1 := e4 ▸ Int.natCast_nonneg _
  have hp0 := hin _ (List.getElem_mem h0)
  have hWH := Nat.mul_le_mul hW.2 hH.2
  refine C.exit <| X.exitT <| X.exitT <| X.outE <| X.next <| C.seq <| C.heldE (by kernel_rfl) fun wh5 hwh5 _ => ?_
  have hS := hwh5
  have hM0 := hM
  have hM := M.ofExt hwh5
  refine H.take 0 rfl rfl (by kernel_rfl) (by kernel_rfl) (by kernel_rfl) hS (fun w' hS => by have hM := hM0.ext hS; exact Y.mv rfl) rfl ?_
  refine H.takeV 1 rfl rfl (by kernel_rfl) (by kernel_rfl) (by kernel_rfl) hS (Y.idx1 (k := 0) rfl rfl (by exact (hM0.ext hS).arg0 (by assumption)) rfl (by omega) Try.underlying45 (by kernel_rfl)) (fun w' hS => by have hM := hM0.ext hS; exact Y.idx1 (k := 0) rfl rfl (by exact hM.arg0 (by assumption)) rfl (by omega) Try.underlying45 (by kernel_rfl)) rfl ?_
  refine H.takeV 3 rfl rfl (by kernel_rfl) (by kernel_rfl) (by kernel_rfl) hS (Y.fld (o := 0) (sz := 0) rfl Try.underlying37 rfl rfl (by kernel_rfl)) (fun w' hS => by have hM := hM0.ext hS; exact Y.fld (o := 0) (sz := 0) rfl Try.underlying37 rfl rfl (by kernel_rfl)) rfl ?_
  refine H.take 6 rfl rfl (by kernel_rfl) (by kernel_rfl) (by kernel_rfl) hS (fun w' hS => by have hM := hM0.ext hS; exact Y.mv rfl) rfl ?_
  refine H.takeV 7 rfl rfl (by kernel_rfl) (by kernel_rfl) (by kernel_rfl) hS (Y.idx1 (k := 0) rfl rfl (by exact (hM0.ext hS).arg0 (by assumption)) rfl (by omega) Try.underlying45 (by kernel_rfl)) (fun w' hS => by have hM := hM0.ext hS; exact Y.idx1 (k := 0) rfl rfl (by exact hM.arg0 (by assumption)) rfl (by omega) Try.underlying45 (by kernel_rfl)) rfl ?_
  refine H.takeV 9 rfl rfl (by kernel_rfl) (by kernel_rfl) (by kernel_rfl) hS (Y.fld (o := 0) (sz := 0) rfl Try.underlying37 rfl rfl (by kernel_rfl)) (fun w' hS => by have hM := hM0.ext hS; exact Y.fld (o := 0) (sz := 0) rfl Try.underlying37 rfl rfl (by kernel_rfl)) rfl ?_
  refine H.takeV 2 rfl rfl (by kernel_rfl) (by kernel_rfl) (by kernel_rfl) hS (Y.load rfl Try.underlying3 rfl (by exact ((hM0.ext hS).arg0 (by assumption)).cellA rfl (by omega))) (fun w' hS => by have hM := hM0.ext hS; exact Y.load rfl Try.underlying3 rfl (by exact (hM.arg0 (by assumption)).cellA rfl (by omega))) rfl ?_
  refine H.takeV 4 rfl rfl (by kernel_rfl) (by kernel_rfl) (by kernel_rfl) hS (Y.load rfl Try.underlying3 rfl (by exact (hM0.ext hS).bcell 0 rfl rfl)) (fun w' hS => by have hM := hM0.ext hS; exact Y.load rfl Try.underlying3 rfl (by exact hM.bcell 0 rfl rfl)) rfl ?_
  refine H.take 5 rfl rfl (by kernel_rfl) (by kernel_rfl) (by kernel_rfl) hS (fun w' hS => by have hM := hM0.ext hS; exact Y.rem rfl rfl (by omega) (IntWalk.rem_in _ _ (by omega))) rfl ?_
  refine H.takeV 8 rfl rfl (by kernel_rfl) (by kernel_rfl) (by kernel_rfl) hS (Y.load rfl Try.underlying3 rfl (by exact ((hM0.ext hS).arg0 (by assumption)).cellA rfl (by omega))) (fun w' hS => by have hM := hM0.ext hS; exact Y.load rfl Try.underlying3 rfl (by exact (hM.arg0 (by assumption)).cellA rfl (by omega))) rfl ?_
  refine H.takeV 10 rfl rfl (by kernel_rfl) (by kernel_rfl) (by kernel_rfl) hS (Y.load rfl Try.underlying3 rfl (by exact (hM0.ext hS).bcell 0 rfl rfl)) (fun w' hS => by have hM := hM0.ext hS; exact Y.load rfl Try.underlying3 rfl (by exact hM.bcell 0 rfl rfl)) rfl ?_
  refine H.take 11 rfl rfl (by kernel_rfl) (by kernel_rfl) (by kernel_rfl) hS (fun w' hS => by have hM := hM0.ext hS; exact Y.quo rfl rfl (by omega) (IntWalk.i64_quo _ _ (by omega))) rfl ?_
  refine H.take 12 rfl rfl (by kernel_rfl) (by kernel_rfl) (by kernel_rfl) hS (fun w' hS => by have hM := hM0.ext hS; exact Y.buildC (cs := [_, _]) [.int .i64 0, .int .i64 0] [0, 1] rfl rfl (by kernel_rfl)) rfl ?_
  refine H.only 13 rfl (by kernel_rfl) ?_
  refine E.allocM (z := .agg #[.int .i64 0, .int .i64 0]) (cs := [.int .i64 0, .int .i64 0]) hM (by kernel_rfl) rfl rfl ?_
  intro b12 w6 hM
  try dsimp only [Za, Zb, Zc, Zd, repl] at hM
  have hS := hM.toExt
  refine H.back hS ?_
  refine H.only 14 rfl (by kernel_rfl) ?_
  first
   | refine E.storeAM 0 hM rfl rfl rfl (by kernel_rfl) rfl ?_ ?_
   | refine E.storeAM 1 hM rfl rfl rfl (by kernel_rfl) rfl ?_ ?_
   | refine E.storeAM 2 hM rfl rfl rfl (by kernel_rfl) rfl ?_ ?_
   | refine E.storeAM 3 hM rfl rfl rfl (by kernel_rfl) rfl ?_ ?_
   | refine E.storeAM 4 hM rfl rfl rfl (by kernel_rfl) rfl ?_ ?_
   | refine E.storeAM 5 hM rfl rfl rfl (by kernel_rfl) rfl ?_ ?_
   | refine E.storeAM 6 hM rfl rfl rfl (by kernel_rfl) rfl ?_ ?_
   | refine E.storeAM 7 hM rfl rfl rfl (by kernel_rfl) rfl ?_ ?_
  · exact ones (by rfl) <| ones (by rfl) <| ones_nil
  intro w7 hM
  try dsimp only [Za, Zb, Zc, Zd, repl] at hM
  have hS := hM.toExt
  refine H.back hS ?_
  refine H.done (by kernel_rfl) ?_
  have hM := hM0.call hM
  refine X.next <| C.seq <| C.region <| E.mv rfl rfl <| E.mv rfl rfl <| E.mv rfl rfl <| E.mv rfl rfl <| ?_
  refine E.sub' rfl rfl (by omega) rfl ?_
  refine E.add rfl rfl (by omega) rfl ?_
  refine E.mv rfl rfl <| E.mv rfl rfl <| ?_
  refine E.sub' rfl rfl (by omega) rfl ?_
  refine E.add rfl rfl (by omega) rfl ?_
  refine E.buildC (cs := [_, _, _, _]) [.int .i64 0, .int .i64 0, .int .i64 0, .int .i64 0] [0, 1, 2, 3] rfl rfl (by kernel_rfl) rfl ?_
  refine E.mv rfl rfl <| ?_
  refine E.lenv rfl (Rd.shape (by exact hM.arg0 (by assumption))) Try.underlying45 rfl ?_
  refine E.loadA rfl Try.underlying64 rfl (by kernel_rfl) (by exact hM.bat 2 rfl) rfl ?_
  refine E.buildC (cs := [_, _, _, _, _, _, _]) [.int .i64 0, .int .i64 0, .int .i64 0, .int .i64 0, .int .i64 0, .int .i64 0, .int .i64 0] [0, 4, 5] rfl rfl (by kernel_rfl) rfl ?_
  first
   | refine E.storeAM 0 hM rfl rfl rfl (by kernel_rfl) rfl ?_ ?_
   | refine E.storeAM 1 hM rfl rfl rfl (by kernel_rfl) rfl ?_ ?_
   | refine E.storeAM 2 hM rfl rfl rfl (by kernel_rfl) rfl ?_ ?_
   | refine E.storeAM 3 hM rfl rfl rfl (by kernel_rfl) rfl ?_ ?_
   | refine E.storeAM 4 hM rfl rfl rfl (by kernel_rfl) rfl ?_ ?_
   | refine E.storeAM 5 hM rfl rfl rfl (by kernel_rfl) rfl ?_ ?_
   | refine E.storeAM 6 hM rfl rfl rfl (by kernel_rfl) rfl ?_ ?_
   | refine E.storeAM 7 hM rfl rfl rfl (by kernel_rfl) rfl ?_ ?_
  · exact ones (by rfl) <| ones (by rfl) <| ones (by rfl) <| ones (by rfl) <| ones (by rfl) <| ones (by rfl) <| ones (by rfl) <| ones_nil
  intro w8 hM
  try dsimp only [Za, Zb, Zc, Zd, repl] at hM
  refine E.nil <| X.next <| C.ret <| retA rfl rfl Try.underlying73 rfl (by exact hM.blk 1 rfl) (by kernel_rfl) ?_
  exact ⟨⟨x0, y0, x1 - x0 + 1, y1 - y0 + 1, pl.length, ((pl[0] % W : Nat) : Int), ((pl[0] / W : Nat) : Int)⟩, rfl, by simpa [show x0 + (x1 - x0 + 1) - 1 = x1 by omega, show y0 + (y1 - y0 + 1) - 1 = y1 by omega] using hB, rfl, rfl, rfl, hM.pick [] (by decide)⟩
end Go.Proofs.Ytbinlkobmlebpaa
namespace Go.Proofs.Ytbinlkobmlebpaa
open Go.RowKit Sym Uf
structure PInv (D : Nat → Prop) (R : Nat → Nat → Prop) (W n i : Nat) (lab : List Int) (bl : List Bl) : Prop where
 len : lab.length = n
 off : ∀ j : Nat, j < n → ¬ D j → lab[j]? = some (-1)
 on : ∀ j f : Nat, j < n → D j → Fst D R f → R f j → f < i → lab[j]? = some (nf D R f : Int)
 new : ∀ j f : Nat, j < n → D j → Fst D R f → R f j → i ≤ f → lab[j]? = some (-1)
 num : bl.length = nf D R i
 blob : ∀ f, f < i → Fst D R f → ∃ b, bl[nf D R f]? = some b ∧ BSpec D R W f n b
section
variable {D : Nat → Prop} {R : Nat → Nat → Prop} {W n i : Nat} {lab : List Int} {bl : List Bl}
theorem PInv.start (D : Nat → Prop) (R : Nat → Nat → Prop) (W n : Nat) : PInv D R W n 0 (List.replicate n (-1)) [] where
 len := by simp
 off j hj _ := by simp [hj]
 on j f _ _ _ _ h := by omega
 new j f hj _ _ _ _ := by simp [hj]
 num := rfl
 blob f h := by omega
theorem PInv.skip (h : PInv D R W n i lab bl) (hi : i < n) (hR : ∀ i, R i i) (hno : ¬ (D i ∧ ∃ z, lab[i]? = some z ∧ z < 0)) : PInv D R W n (i + 1) lab bl := by
 have hF : ¬ Fst D R i := fun hf => hno ⟨hf.1, -1, h.new i i hi hf.1 hf (hR i) (Nat.le_refl _), by decide⟩
 refine ⟨h.len, h.off, fun j f hj hD hf hr hlt => h.on j f hj hD hf hr (by have : f ≠ i := fun e => hF (e ▸ hf); omega), fun j f hj hD hf hr hle => h.new j f hj hD hf hr (by omega), by rw [nf_succ_neg hF]; exact h.num, fun f hlt hf => h.blob f (by have : f ≠ i := fun e => hF (e ▸ hf); omega) hf⟩
theorem PInv.first (h : PInv D R W n i lab bl) (hi : i < n) (hr : ∀ i, R i i) (ht : ∀ i j k, R i j → R j k → R i k) (hD : D i) {z : Int} (hz : lab[i]? = some z) (h0 : z < 0) : Fst D R i := by
  obtain ⟨f, f1, f2, f3⟩ := first_of (D := D) hr ht i hD
  by_cases e : f = i
  · exact e ▸ f2
  · have := h.on i f hi hD f2 f3 (by omega)
    rw [hz] at this; cases this; omega
theorem PInv.next (h : PInv D R W n i lab bl) (hs : ∀ i j, R i j → R j i) (ht : ∀ i j k, R i j → R j k → R i k) (hf : Fst D R i) {lab' : List Int} (hlen : lab'.length = n) (hin : ∀ j : Nat, j < n → D j → R i j → lab'[j]? = some (nf D R i : Int)) (hout : ∀ j : Nat, j < n → ¬ (D j ∧ R i j) → lab'[j]? = lab[j]?) {b : Bl} (hb : BSpec D R W i n b) :
    PInv D R W n (i + 1) lab' (bl ++ [b]) := by
  refine ⟨hlen, fun j hj hD => by rw [hout j hj (fun e => hD e.1)]; exact h.off j hj hD, fun j f hj hD hf' hr hlt => ?_, fun j f hj hD hf' hr hle => ?_, by rw [List.length_append, nf_succ_pos hf, h.num]; rfl, fun f hlt hf' => ?_⟩
  · by_cases e : f = i
    · subst e; exact hin j hj hD hr
    · rw [hout j hj (fun x => e (first_eq hs ht hf' hf hr x.2))]; exact h.on j f hj hD hf' hr (by omega)
  · rw [hout j hj (fun x => by have := first_eq hs ht hf' hf hr x.2; omega)]; exact h.new j f hj hD hf' hr (by omega)
  · by_cases e : f = i
    · subst e; exact ⟨b, by rw [← h.num, List.getElem?_append_right (Nat.le_refl _)]; simp, hb⟩
    · obtain ⟨c, c1, c2⟩ := h.blob f (by omega) hf'
      exact ⟨c, by rw [List.getElem?_append_left (List.getElem?_eq_some_iff.1 c1).1]; exact c1, c2⟩
theorem PInv.labelled (h : PInv D R W n n lab bl) (hr : ∀ i, R i i) (ht : ∀ i j k, R i j → R j k → R i k) : Labelled D R W n lab bl where
 len := h.len
 off := h.off
 on i hi hD := by
  obtain ⟨f, f1, f2, f3⟩ := first_of (D := D) hr ht i hD
  exact ⟨f, f1, f2, f3, h.on i f hi hD f2 f3 (by omega)⟩
 num := h.num
 blob := h.blob
end
theorem cnt_list {D : Nat → Prop} {R : Nat → Nat → Prop} {f : Nat} : ∀ (n : Nat) (l : List Nat), l.Nodup → (∀ j, j ∈ l ↔ j < n ∧ D j ∧ R f j) → cnt D R f n = l.length := by
  intro n
  induction n with
  | zero => intro l _ h; cases l with
    | nil => rfl
    | cons a l => have := (h a).1 (by simp); omega
  | succ n ih =>
    intro l hl h
    rw [cnt]
    by_cases hn : D n ∧ R f n
    · rw [if_pos hn]
      have hm : n ∈ l := (h n).2 ⟨by omega, hn⟩
      rw [ih (l.erase n) (hl.erase n) (fun j => by
        rw [hl.mem_erase_iff, h j]
        constructor
        · rintro ⟨h1, h2, h3⟩; exact ⟨by omega, h3⟩
        · rintro ⟨h1, h3⟩; exact ⟨by omega, by omega, h3⟩), List.length_erase_of_mem hm]
      have := List.length_pos_of_mem hm; omega
    · rw [if_neg hn, Nat.add_zero]
      exact ih l hl fun j => by
        rw [h j]
        constructor
        · rintro ⟨h1, h3⟩; exact ⟨by have : j ≠ n := fun e => hn (e ▸ h3); omega, h3⟩
        · rintro ⟨h1, h3⟩; exact ⟨by omega, h3⟩
theorem Bx.spec {D : Nat → Prop} {R : Nat → Nat → Prop} {W Ht n f : Nat} {pl : List Nat} {b : Bl} (hl : pl.Nodup) (hm : ∀ j, j ∈ pl ↔ j < n ∧ D j ∧ R f j) (hs : ∀ i j, R i j → R j i) (hr : ∀ i, R i i) (hf : Fst D R f) (hfn : f < n) (hB : Bx W Ht pl pl.length b.x b.y (b.x + b.w - 1) (b.y + b.h - 1)) (ha : b.area = pl.length) (hfx : b.fx = ((f % W : Nat) : Int)) (hfy : b.fy = ((f / W : Nat) : Int)) : BSpec D R W f n b := by
 have hfm : f ∈ pl := (hm f).2 ⟨hfn, hf.1, hr f⟩
 have h0 : 0 < pl.length := List.length_pos_of_mem hfm
 have hall : ∀ p ∈ pl, b.x ≤ ((p % W : Nat) : Int) ∧ ((p % W : Nat) : Int) ≤ b.x + b.w - 1 ∧ b.y ≤ ((p / W : Nat) : Int) ∧ ((p / W : Nat) : Int) ≤ b.y + b.h - 1 := fun p hp => by
  obtain ⟨j, hj, e⟩ := List.mem_iff_getElem.1 hp
  exact hB.all j p hj (by rw [List.getElem?_eq_getElem hj, e])
 obtain ⟨p1, m1, e1⟩ := hB.l h0
 obtain ⟨p2, m2, e2⟩ := hB.r h0
 obtain ⟨p3, m3, e3⟩ := hB.t h0
 obtain ⟨p4, m4, e4⟩ := hB.b h0
 have k1 := (hm p1).1 m1
 have k2 := (hm p2).1 m2
 have k3 := (hm p3).1 m3
 have k4 := (hm p4).1 m4
 have hle : f / W ≤ p3 / W := Nat.div_le_div_right (hf.le hs k3.2.1 k3.2.2)
 have hy : b.y = ((f / W : Nat) : Int) := by have := (hall f hfm).2.2.1; omega
 refine ⟨hfx, hfy, hy, fun i hi hD hR => ?_, ⟨p1, k1.1, k1.2.1, k1.2.2, e1⟩, ⟨p2, k2.1, k2.2.1, k2.2.2, by omega⟩, ⟨p4, k4.1, k4.2.1, k4.2.2, by omega⟩, by rw [ha, cnt_list n pl hl hm]⟩
 have := hall i ((hm i).2 ⟨hi, hD, hR⟩)
 omega
end Go.Proofs.Ytbinlkobmlebpaa
namespace Go.Proofs.Ytbinlkobmlebpaa
open Go.RowKit Sym Uf
set_option maxHeartbeats 1000000 in
theorem rparts_ret (W Ht : Nat) (vd : Value) (dk : List Bool) (dark eight : Bool) (w : World) (hW : 1 ≤ W ∧ W ≤ 4096) (hH : 1 ≤ Ht ∧ Ht ≤ 4096) (hn : dk.length = W * Ht) (hn0 : dk.length ≤ 4194304) (hr : RdL Value.bool w vd dk) :
  Ret Try.prog 68 #[mat W Ht vd, .bool dark, .bool eight] w fun v w' => ∃ va vb lab bl, v = .tuple #[va, vb] ∧ Labelled (DD dk dark) (RR W eight dk dark) W dk.length lab bl ∧ M w Nn w' [Rg.sl i64 3 va lab, Rg.slF Bl.cells 7 73 vb bl] := by
 have hM := M.start w
 refine enter Try.func68 rfl (by kernel_rfl) Try.ntmps68 rfl ?_
 refine C.seq <| C.region <| ?_
 refine E.boxM hM rfl rfl rfl ?_
 intro b3 w0 hM
 try dsimp only [Za, Zb, Zc, Zd, repl] at hM
 refine E.asg rfl rfl <| E.asg rfl rfl <| E.nil <| X.next <| C.seq <| C.region <| E.asg rfl rfl <| E.nil <| X.next <| C.seq <| C.seq <| C.region <| E.asg rfl rfl <| E.nil <| X.next <| C.block <| ?_
 have hM := hM.nil i64 3

 refine C.loop2 [(1, _), (2, _), (3, _)] rfl (fun (vl : Value) (i : Nat) => [(8, vl), (9, i64 i)]) (fun (vl : Value) (i : Nat) w' => M w (Nn) w' [Rg.blk b3 37 [i64 W, i64 Ht, vd], Rg.sl i64 3 vl (List.replicate i (-1))] ∧ i ≤ dk.length) (fun (vl : Value) (i : Nat) => dk.length - i) nilS 0 ?_ ?_ ?_
 · exact Sub.cons rfl <| Sub.cons rfl <| Sub.nil _
 · exact ⟨hM, Nat.zero_le _⟩
 rintro vl i w1 ⟨hM, hi⟩
 refine C.seq <| C.seq <| C.region <| E.mv rfl rfl <| ?_
 refine E.fld (o := 2) (sz := 0) rfl Try.underlying37 rfl rfl (by kernel_rfl) rfl ?_
 refine E.load rfl Try.underlying35 rfl (by exact hM.bcell 0 rfl rfl) rfl ?_
 refine E.lenv rfl (Rd.shape (by exact hM.arg0 (by assumption))) Try.underlying35 rfl ?_
 refine E.bin rfl rfl rfl rfl <| E.nil <| X.next <| ?_
 refine C.cond' rfl (fun hC0 => ?_) (fun hC0 => ?_)
 ·
  refine C.skip <| X.next <| C.seq <| C.block <| C.region <| E.mv rfl rfl <| ?_
  first
   | refine E.pushM 0 _ hM rfl rfl rfl Try.underlying45 elem_Tint rfl ?_ ?_ (by simp) rfl rfl ?_
   | refine E.pushM 1 _ hM rfl rfl rfl Try.underlying45 elem_Tint rfl ?_ ?_ (by simp) rfl rfl ?_
   | refine E.pushM 2 _ hM rfl rfl rfl Try.underlying45 elem_Tint rfl ?_ ?_ (by simp) rfl rfl ?_
   | refine E.pushM 3 _ hM rfl rfl rfl Try.underlying45 elem_Tint rfl ?_ ?_ (by simp) rfl rfl ?_
   | refine E.pushM 4 _ hM rfl rfl rfl Try.underlying45 elem_Tint rfl ?_ ?_ (by simp) rfl rfl ?_
   | refine E.pushM 5 _ hM rfl rfl rfl Try.underlying45 elem_Tint rfl ?_ ?_ (by simp) rfl rfl ?_
   | refine E.pushM 6 _ hM rfl rfl rfl Try.underlying45 elem_Tint rfl ?_ ?_ (by simp) rfl rfl ?_
   | refine E.pushM 7 _ hM rfl rfl rfl Try.underlying45 elem_Tint rfl ?_ ?_ (by simp) rfl rfl ?_
  · exact (by (simp only [List.length_replicate, List.length_append, List.length_set, List.length_cons, List.length_nil, List.length_map, List.length_range, List.length_take, List.length_drop, List.length_zipWith] at *; omega))
  · exact (by (simp only [List.length_replicate, List.length_append, List.length_set, List.length_cons, List.length_nil, List.length_map, List.length_range, List.length_take, List.length_drop, List.length_zipWith] at *; omega))
  intro v22 u22 w2 hM
  try dsimp only [Za, Zb, Zc, Zd, repl] at hM
  refine E.asg rfl rfl <| E.nil <| X.outN <| X.next <| C.region <| E.mv rfl rfl <| ?_
  refine E.add rfl rfl (by omega) rfl ?_

  refine E.asg rfl rfl <| E.nil <| X.again2 _ (i + 1) (Sub.cons rfl <| Sub.cons rfl <| Sub.nil _) rfl ⟨by rw [List.replicate_succ']; exact hM, by omega⟩ (by omega)
 ·
  obtain rfl : i = dk.length := by omega
  refine C.exit <| X.exitT <| X.exitT <| X.outE <| X.next <| C.seq <| C.region <| E.asg rfl rfl <| E.nil <| X.next <| C.seq <| C.seq <| C.region <| E.asg rfl rfl <| E.nil <| X.next <| C.block <| ?_
  have hM := hM.nilF Bl.cells 7 73

  refine C.loop5 [(1, _), (2, _), (3, _)] rfl (fun (vl : Value) (lab : (List Int)) (vb : Value) (bl : (List Bl)) (i : Nat) => [(8, vl), (10, vb), (11, i64 i)]) (fun (vl : Value) (lab : (List Int)) (vb : Value) (bl : (List Bl)) (i : Nat) w' => M w (Nn) w' [Rg.blk b3 37 [i64 W, i64 Ht, vd], Rg.sl i64 3 vl lab, Rg.slF Bl.cells 7 73 vb bl] ∧ i ≤ dk.length ∧ PInv (DD dk dark) (RR W eight dk dark) W dk.length i lab bl) (fun (vl : Value) (lab : (List Int)) (vb : Value) (bl : (List Bl)) (i : Nat) => dk.length - i) vl (List.replicate dk.length (-1)) nilS [] 0 ?_ ?_ ?_
  · exact Sub.cons rfl <| Sub.cons rfl <| Sub.cons rfl <| Sub.nil _
  · exact ⟨hM, Nat.zero_le _, PInv.start _ _ _ _⟩
  rintro vl lab vb bl i w3 ⟨hM, hi, hP⟩
  refine C.seq <| C.seq <| C.region <| E.mv rfl rfl <| ?_
  refine E.fld (o := 2) (sz := 0) rfl Try.underlying37 rfl rfl (by kernel_rfl) rfl ?_
  refine E.load rfl Try.underlying35 rfl (by exact hM.bcell 0 rfl rfl) rfl ?_
  refine E.lenv rfl (Rd.shape (by exact hM.arg0 (by assumption))) Try.underlying35 rfl ?_
  refine E.bin rfl rfl rfl rfl <| E.nil <| X.next <| ?_
  refine C.cond' rfl (fun hC1 => ?_) (fun hC1 => ?_)
  ·
   have hi' : i < dk.length := by omega
   have hil : i < lab.length := by rw [hP.len]; exact hi'
   have hnum := hP.num
   have hnf := nf_le (D := DD dk dark) (R := RR W eight dk dark) i
   refine C.skip <| X.next <| ?_

   refine C.cut4 [(1, _), (2, _), (3, _), (11, _)] rfl (fun (vl : Value) (lab : (List Int)) (vb : Value) (bl : (List Bl)) => [(8, vl), (10, vb)]) (fun (vl : Value) (lab : (List Int)) (vb : Value) (bl : (List Bl)) w' => M w (Nn) w' [Rg.blk b3 37 [i64 W, i64 Ht, vd], Rg.sl i64 3 vl lab, Rg.slF Bl.cells 7 73 vb bl] ∧ PInv (DD dk dark) (RR W eight dk dark) W dk.length (i + 1) lab bl) ?_ ?_
   ·
    refine C.block <| ?_

    refine C.chainE [(1, _), (2, _), (3, _), (8, _), (10, _), (11, _)] rfl [(43, .bool (decide (dk[i] = dark ∧ lab[i] < 0)))] ?_ ?_
    ·
     refine C.region <| ?_
     refine E.fld (o := 2) (sz := 0) rfl Try.underlying37 rfl rfl (by kernel_rfl) rfl ?_
     refine E.load rfl Try.underlying35 rfl (by exact hM.bcell 0 rfl rfl) rfl ?_
     refine E.mv rfl rfl <| ?_
     refine E.get (k := _) rfl rfl (by exact hM.arg0 (by assumption)) rfl (by omega) Try.underlying35 (by kernel_rfl) Try.underlying4 rfl rfl rfl ?_
     refine E.mv rfl rfl <| E.eqb rfl rfl Try.underlying4 rfl <| E.mv rfl rfl <| ?_
     refine E.split 37 rfl (fun g37 => ?_) (fun g37 => ?_)
     ·
      try simp only [decide_eq_true_eq, decide_eq_false_iff_not, ne_eq, Decidable.not_not] at g37
      refine E.on rfl rfl (E.mv rfl rfl ?_)
      refine E.on rfl rfl (E.mv rfl rfl ?_)
      refine E.on rfl rfl (E.idx1 (k := _) rfl rfl (by exact hM.sl 1 rfl) rfl (by omega) Try.underlying45 (by kernel_rfl) rfl ?_)
      refine E.on rfl rfl (E.load rfl Try.underlying3 rfl (by exact (hM.sl 1 rfl).cellA rfl (by omega)) rfl ?_)
      refine E.on rfl rfl (E.bin rfl rfl rfl rfl ?_)
      refine E.pick rfl rfl rfl <| E.nil <| X.join0 (Sub.cons (by exact leaf_d (by ((try simp only [decide_eq_true_eq, decide_eq_false_iff_not, Bool.not_eq_true', Bool.not_eq_false'] at *); first | omega | (simp_all <;> fail) | (simp_all; omega)))) <| Sub.nil _) rfl rfl
     ·
      try simp only [decide_eq_true_eq, decide_eq_false_iff_not, ne_eq, Decidable.not_not] at g37
      refine E.off rfl rfl rfl rfl <| E.off rfl rfl rfl rfl <| E.off rfl rfl rfl rfl <| E.off rfl rfl rfl rfl <| E.off rfl rfl rfl rfl <| E.pick rfl rfl rfl <| E.nil <| X.join0 (Sub.cons (by exact leaf_f (by ((try simp only [decide_eq_true_eq, decide_eq_false_iff_not, Bool.not_eq_true', Bool.not_eq_false'] at *); first | omega | (simp_all <;> fail) | (simp_all; omega)))) <| Sub.nil _) rfl rfl
    refine C.cond' rfl (fun hC2 => ?_) (fun hC2 => ?_)
    ·
     have hd : DD dk dark i := by show dk[i]? = _; rw [List.getElem?_eq_getElem hi', hC2.1]
     have hF : Fst (DD dk dark) (RR W eight dk dark) i := hP.first hi' Cl.refl (fun _ _ _ => Cl.trans) hd (List.getElem?_eq_getElem hil) hC2.2
     refine C.seq <| C.region <| E.asg rfl rfl <| E.nil <| X.next <| C.seq <| C.region <| ?_
     refine E.loadA rfl Try.underlying37 rfl (by kernel_rfl) (by exact hM.bat 0 rfl) rfl ?_
     refine E.mv rfl rfl <| E.mv rfl rfl <| E.mv rfl rfl <| ?_
     refine E.lenv rfl (RdF.shape (by exact hM.slF 2 rfl)) Try.underlying69 rfl ?_
     refine E.mv rfl rfl <| ?_
     have hvd : vl.ownBlock ≠ some (bs vd).1 := fun e => by
      have h1 := World.block_lt_of_cell? w _ (hr.cell hi')
      have h2 := (hM.mine 1 _ rfl _ e).elim (fun h => h.elim) id
      have : (bs vd).1 < w.heap.size := h1
      omega
     have hcls : ∀ j : Nat, dk[j]? = some dk[i] → Cl (Ed W eight dk dk[i] dk.length) i j → ∃ z, lab[j]? = some z ∧ z < 0 := fun j hj hc => by
      rw [hC2.1] at hj hc
      exact ⟨-1, hP.new j i (List.getElem?_eq_some_iff.1 hj).1 hj hF hc (Nat.le_refl _), by decide⟩
     refine E.call rfl rfl (spread_ret W Ht vd dk vl lab i (bl.length : Int) eight 0 _ hW hH hn hn0 (hM.arg0 hr) (hM.own 1 rfl) hvd hP.len hi' (by omega) hcls) ?_
     rintro _ w9 ⟨vf, lab1, found, rfl, ol, of, hL, g⟩
     have hM := hM.growNew 1 rfl ol of g
     try dsimp only [Za, Zb, Zc, Zd, repl] at hM
     rw [hC2.1] at hL
     have hall := hL.all (by omega) hn
     have hfp : 0 < found.length := by have := List.mem_of_getElem? hL.head; exact List.length_pos_of_mem this
     have hf0 : found[0] = i := by have := hL.head; rw [List.getElem?_eq_getElem hfp] at this; exact Option.some.inj this
     have hfl := hL.le
     refine E.mv rfl rfl <| E.ext rfl rfl rfl <| E.ext rfl rfl rfl <| E.asg rfl rfl <| E.asg rfl rfl <| E.nil <| X.next <| C.region <| E.mv rfl rfl <| ?_
     refine E.loadA rfl Try.underlying37 rfl (by kernel_rfl) (by exact hM.bat 0 rfl) rfl ?_
     refine E.mv rfl rfl <| ?_
     refine E.call rfl rfl (rblob_ret W Ht vd vf found _ hW hH (hM.sl 3 rfl) hfp (by omega) (fun p hp => by have := (List.getElem?_eq_some_iff.1 ((hall p).1 hp).1).1; omega)) ?_
     rintro _ w10 ⟨b, rfl, hB, ha, hfx, hfy, m⟩
     have hM := hM.call m
     try dsimp only [Za, Zb, Zc, Zd, repl] at hM
     first
      | refine E.pushFM 0 b hM rfl rfl rfl Try.underlying69 elem_Tapi_Blob rfl (by decide) (by simp [Bl.cells, Value.oneCell']) ?_ ?_ (by simp) rfl rfl ?_
      | refine E.pushFM 1 b hM rfl rfl rfl Try.underlying69 elem_Tapi_Blob rfl (by decide) (by simp [Bl.cells, Value.oneCell']) ?_ ?_ (by simp) rfl rfl ?_
      | refine E.pushFM 2 b hM rfl rfl rfl Try.underlying69 elem_Tapi_Blob rfl (by decide) (by simp [Bl.cells, Value.oneCell']) ?_ ?_ (by simp) rfl rfl ?_
      | refine E.pushFM 3 b hM rfl rfl rfl Try.underlying69 elem_Tapi_Blob rfl (by decide) (by simp [Bl.cells, Value.oneCell']) ?_ ?_ (by simp) rfl rfl ?_
      | refine E.pushFM 4 b hM rfl rfl rfl Try.underlying69 elem_Tapi_Blob rfl (by decide) (by simp [Bl.cells, Value.oneCell']) ?_ ?_ (by simp) rfl rfl ?_
      | refine E.pushFM 5 b hM rfl rfl rfl Try.underlying69 elem_Tapi_Blob rfl (by decide) (by simp [Bl.cells, Value.oneCell']) ?_ ?_ (by simp) rfl rfl ?_
      | refine E.pushFM 6 b hM rfl rfl rfl Try.underlying69 elem_Tapi_Blob rfl (by decide) (by simp [Bl.cells, Value.oneCell']) ?_ ?_ (by simp) rfl rfl ?_
      | refine E.pushFM 7 b hM rfl rfl rfl Try.underlying69 elem_Tapi_Blob rfl (by decide) (by simp [Bl.cells, Value.oneCell']) ?_ ?_ (by simp) rfl rfl ?_
     · exact (by omega)
     · exact (by omega)
     intro v59 u59 w6 hM
     try dsimp only [Za, Zb, Zc, Zd, repl] at hM
     refine E.asg rfl rfl <| E.nil <| X.outN <| ?_
     have hmem : ∀ j, j ∈ found ↔ j < dk.length ∧ DD dk dark j ∧ RR W eight dk dark i j := fun j => by
      rw [hall j]
      exact ⟨fun h => ⟨(List.getElem?_eq_some_iff.1 h.1).1, h⟩, fun h => h.2⟩
     have hPn := hP.next (fun _ _ => Cl.symm) (fun _ _ _ => Cl.trans) hF (lab' := lab1) (by rw [hL.len, hP.len]) (fun j hj hD hR => by rw [hL.lab j, if_pos ((hmem j).2 ⟨hj, hD, hR⟩), List.getElem?_eq_getElem (by rw [hP.len]; exact hj), ← hnum]; rfl) (fun j hj hno => by rw [hL.lab j, if_neg (fun h => hno ((hmem j).1 h).2)]) (b := b) (Bx.spec hL.nodup hmem (fun _ _ => Cl.symm) Cl.refl hF hi' hB ha (by rw [hfx, hf0]) (by rw [hfy, hf0]))

     refine X.join4 _ lab1 _ (bl ++ [b]) (Sub.cons rfl <| Sub.cons rfl <| Sub.nil _) rfl ⟨hM.pick [0, 1, 2] (by decide), hPn⟩
    ·

     refine C.skip <| X.outN <| X.join4 vl lab vb bl (Sub.cons rfl <| Sub.cons rfl <| Sub.nil _) rfl ⟨hM, hP.skip hi' Cl.refl (fun ⟨h1, z, h2, h3⟩ => hC2 ⟨by have h1' : dk[i]? = some dark := h1; rw [List.getElem?_eq_getElem hi'] at h1'; exact Option.some.inj h1', by rw [List.getElem?_eq_getElem hil] at h2; cases h2; exact h3⟩)⟩
   rintro vl lab vb bl w7 ⟨hM, hP⟩
   refine C.region <| E.mv rfl rfl <| ?_
   refine E.add rfl rfl (by omega) rfl ?_

   refine E.asg rfl rfl <| E.nil <| X.again5 vl lab vb bl (i + 1) (Sub.cons rfl <| Sub.cons rfl <| Sub.cons rfl <| Sub.nil _) rfl ⟨hM, by omega, hP⟩ (by omega)
  ·
   obtain rfl : i = dk.length := by omega
   refine C.exit <| X.exitT <| X.exitT <| X.outE <| X.next <| C.seq <| C.region <| E.mv rfl rfl <| E.mv rfl rfl <| E.asg rfl rfl <| E.asg rfl rfl <| E.nil <| X.next <| C.ret <| ret2 rfl rfl rfl ?_
   exact ⟨vl, vb, lab, bl, rfl, hP.labelled Cl.refl (fun _ _ _ => Cl.trans), hM.pick [1, 2] (by decide)⟩
end Go.Proofs.Ytbinlkobmlebpaa
