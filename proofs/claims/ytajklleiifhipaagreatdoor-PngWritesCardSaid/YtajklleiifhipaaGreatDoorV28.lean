/- Texts of the claim, laid together: Pg24, Pg25. -/
import Derived.Test.YtajklleiifhipaaGreatDoorV0
import Derived.Test.YtajklleiifhipaaGreatDoorV3
import Derived.Test.YtajklleiifhipaaGreatDoorV5
import Derived.Test.YtajklleiifhipaaGreatDoorV24
import Derived.Test.YtajklleiifhipaaGreatDoorV25
import Derived.Test.YtajklleiifhipaaGreatDoorV27
set_option linter.unusedSimpArgs false
set_option linter.unusedVariables false
namespace Go.Proofs.YtajklleiifhipaaGreatDoor
open Go.RowKit Sym
open Pg
theorem apk_ok {k : Nat} {row prior : List UInt8} (hk : k < 5) (h : prior = [] ∨ prior.length = row.length) : apE (k : Int) row prior = 0 := by
 rw [apE, if_neg (by omega), if_neg (fun g => h.elim g.1 g.2)]
theorem apk_fil (f : Nat → List UInt8 → List UInt8 → List UInt8) {k : Nat} {row prior : List UInt8} (hk : k < 5) (h : prior = [] ∨ prior.length = row.length) : apO f (k : Int) row prior = f k row prior := by
 rw [apO, if_pos (apk_ok hk h), Int.toNat_natCast]
theorem rFil_ret (k : Nat) (p q : Value) (row prior : List UInt8) (w : World) (hp : RdL u8 w p row) (hq : RdL u8 w q prior) (hl : row.length ≤ 1000000) (hk : k < 5) (h : prior = [] ∨ prior.length = row.length) :
  Ret Tryz.prog 22 #[i64 (k : Int), p, q] w fun v w' => ∃ vo, v = .tuple #[vo, i64 0] ∧ M w Nn w' [Rg.sl u8 5 vo (fil k row prior)] :=
 (rFilter_ret k p q row prior w hp hq hl).mono fun v w' ⟨vo, e, m⟩ => ⟨vo, by rw [e, apk_ok hk h], by rw [apk_fil fil hk h] at m; exact m⟩
namespace Pg
theorem dep_s8 {pix : List UInt8} {i : Nat} (hi : i < pix.length) (h : (pix[i]).toNat ≠ 0 ∧ (pix[i]).toNat ≠ 255) : dep (pix.take (i + 1)) = 8 := by
 have h1 : i < (pix.take (i + 1)).length := by rw [List.length_take]; omega
 exact dep_8 h1 (by rw [List.getElem_take]; exact h)
theorem dep_s1 {pix : List UInt8} {i : Nat} (hi : i < pix.length) (h : ¬ ((pix[i]).toNat ≠ 0 ∧ (pix[i]).toNat ≠ 255)) : dep (pix.take (i + 1)) = dep (pix.take i) := by
 have h1 := pix_ok h
 unfold dep
 by_cases c : ∀ x ∈ pix.take i, x = 0 ∨ x = 255
 · rw [if_pos c, if_pos (all_takeN hi c h1)]
 rw [if_neg c, if_neg (fun k => c fun x hx => k x (by rw [← List.take_append_getElem hi]; exact List.mem_append_left _ hx))]
end Pg
set_option maxHeartbeats 4000000 in
set_option maxRecDepth 4000 in
theorem Write35_ret (W H : Int) (vp : Value) (pix : List UInt8) (w : World) (hp : RdL u8 w vp pix) (hsm : pix.length ≤ 3000) :
  Ret Tryz.prog 7 #[imv W H vp] w fun v w' => ∃ (vo : Value) (out : List UInt8) (e : Int), v = .tuple #[vo, i64 e] ∧ Ext w w' ∧ RdL u8 w' vo out ∧ ((vld W H pix.length ∧ e = 0 ∧ out = wri W.toNat H.toNat pix) ∨ (¬ vld W H pix.length ∧ e = 1 ∧ out = [])) := by
 have hM := M.start w
 refine enter Tryz.func7 rfl (by kernel_rfl) Tryz.ntmps7 rfl $ Kb $ E.boxM hM rfl rfl rfl ?_
 intro b1 w0 hM
 refine Kn rfl $ Kc rfl $ C.seq $ Kb $ E.loadA (cs := [i64 W, i64 H, vp]) rfl U24 rfl (by kernel_rfl) (hM.bat 0 rfl) rfl $ E.call rfl rfl (rCheckImage_ret W H vp pix _ (hM.arg0 hp)) ?_
 rintro _ w1 ⟨rfl, x1⟩
 have hM := hM.ext x1
 refine Kp rfl $ Ka $ C.cond' rfl (fun hC0 => ?_) (fun hC0 => ?_)
 ·
  have hnv : ¬ vld W H pix.length := fun h => hC0 (by rw [if_pos h])
  refine Kb $ Kn rfl $ Kc rfl $ C.ret $ X.retT $ ret2 rfl rfl rfl ?_
  exact ⟨nilS, [], 1, rfl, hM.toExt, RdL.nil u8 _, .inr ⟨hnv, rfl, rfl⟩⟩
 have hv : vld W H pix.length := Decidable.byContradiction fun h => hC0 (by rw [if_neg h]; decide)
 obtain ⟨v1, v2, v3, v4, v5, v6⟩ := id hv
 obtain ⟨wd, rfl⟩ : ∃ n : Nat, W = (n : Int) := ⟨W.toNat, by omega⟩
 obtain ⟨ht, rfl⟩ : ∃ n : Nat, H = (n : Int) := ⟨H.toNat, by omega⟩
 have hn : pix.length = wd * ht := Int.ofNat.inj (v6.trans (Int.natCast_mul wd ht).symm)
 have hd : dep pix = 8 ∨ dep pix = 1 := (dep_cases pix).imp id (fun h => h.1)
 obtain ⟨s1, s2, s3, s4⟩ := dta_small hn (by omega) hsm (by omega)
 have hdl := dta_len (d := dep pix) hn hd
 refine Kk $ Kb $ Kc rfl $ C.seq $ Kb $ Kc rfl $ C.block $ C.loop1 [(1, _)] rfl (fun (i : Nat) => [(4, i64 (dep (pix.take i) : Int)), (5, i64 i)]) (fun (i : Nat) w' => M w (Nn) w' [Rg.blk b1 24 [i64 (wd : Int), i64 (ht : Int), vp]] ∧ i ≤ pix.length) (fun (i : Nat) => pix.length - i) 0 ?_ ?_ ?_
 · exact Sub.cons rfl $ S1 rfl
 · exact ⟨hM, Nat.zero_le _⟩
 rintro i w2 ⟨hM, hi⟩
 refine C.seq $ Kb $ Km rfl $ E.fld (o := 2) (sz := 0) rfl U24 rfl rfl (by kernel_rfl) rfl $ E.load rfl U22 rfl (hM.bcell 0 rfl rfl) rfl $ E.lenv rfl (Rd.shape (hM.arg0 hp)) U22 rfl $ Kp rfl $ Ka $ C.cond' rfl (fun hC1 => ?_) (fun hC1 => ?_)
 ·
  have hi' : i < pix.length := by omega
  refine Kk $ C.cut0 [(1, _), (5, _)] rfl [(4, i64 (dep (pix.take (i + 1)) : Int))] (fun w' => M w (Nn) w' [Rg.blk b1 24 [i64 (wd : Int), i64 (ht : Int), vp]]) ?_ ?_
  ·
   refine C.block $ C.chainE [(1, _), (4, _), (5, _)] rfl [(42, .bool (decide ((pix[i]).toNat ≠ 0 ∧ (pix[i]).toNat ≠ 255)))] ?_ ?_
   ·
    refine C.region $ E.fld (o := 2) (sz := 0) rfl U24 rfl rfl (by kernel_rfl) rfl $ E.load rfl U22 rfl (hM.bcell 0 rfl rfl) rfl $ Km rfl $ E.get (k := i) rfl rfl (hM.arg0 hp) rfl (by omega) U22 (by kernel_rfl) U5 rfl rfl rfl ?_
    rw [u8c]
    refine Kp rfl $ Km rfl $ E.split 35 rfl (fun g35 => ?_) (fun g35 => ?_)
    ·
     try simp only [Ya, Yb, Yc, Yd, Ye, Yf] at g35
     refine Ko rfl $ E.fld (o := 2) (sz := 0) rfl U24 rfl rfl (by kernel_rfl) rfl $ Ko rfl $ E.load rfl U22 rfl (hM.bcell 0 rfl rfl) rfl $ Ko rfl $ Km rfl $ Ko rfl $ E.idx1 (k := i) rfl rfl (hM.arg0 hp) rfl hi' U22 (by kernel_rfl) rfl $ Ko rfl $ E.load rfl U5 rfl (RdL.cellA (l := pix) (j := i) (hM.arg0 hp) rfl hi') rfl ?_
     rw [u8c]
     refine Ko rfl $ Kp rfl $ Kr rfl $ E.nil $ X.join0 (Sub.cons (look_eq rfl (congrArg Value.bool (by exact decide_eq_decide.2 ⟨fun h => by omega, fun h => by omega⟩))) $ Sub.nil _) rfl rfl
    try simp only [Ya, Yb, Yc, Yd, Ye, Yf] at g35
    refine Kq rfl $ Kq rfl $ Kq rfl $ Kq rfl $ Kq rfl $ Kq rfl $ Kr rfl $ E.nil $ X.join0 (Sub.cons (look_eq rfl (congrArg Value.bool (by exact (decide_eq_false (p := (pix[i]).toNat ≠ 0 ∧ (pix[i]).toNat ≠ 255) (by omega)).symm))) $ Sub.nil _) rfl rfl
   refine C.cond' rfl (fun hC2 => ?_) (fun hC2 => ?_)
   ·
    refine C.region $ Kn rfl $ E.nil $ X.outN $ X.join0  (Sub.cons (look_val rfl (by rw [dep_s8 hi' hC2]; rfl)) $ Sub.nil _) rfl hM
   refine C.skip $ X.outN $ X.join0  (Sub.cons (look_val rfl (by rw [dep_s1 hi' hC2])) $ Sub.nil _) rfl hM
  rintro  w3 hM
  refine C.region $ Km rfl $ E.add rfl rfl (by omega) rfl $ Kn rfl $ E.nil $ X.again1 (i + 1) (Sub.cons rfl $ S1 rfl) rfl ⟨hM, by omega⟩ (by omega)
 obtain rfl : i = pix.length := by omega
 rw [List.take_length]
 refine Kx $ Kb $ Kn rfl $ Kc rfl $ C.seq $ Kb $ Kc rfl $ C.block $ ?_
 have hM := (hM.nil u8 5).nil u8 5
 try dsimp only [List.nil_append, List.cons_append] at hM
 refine C.loop3 [(1, _), (4, _)] rfl (fun (y : Nat) (vd : Value) (vq : Value) => [(6, vd), (7, vq), (8, i64 y)]) (fun (y : Nat) (vd : Value) (vq : Value) w' => M w (Nn) w' [Rg.blk b1 24 [i64 (wd : Int), i64 (ht : Int), vp], Rg.sl u8 5 vd (dta pix wd (dep pix) y), Rg.sl u8 5 vq (pri pix wd (dep pix) y)] ∧ y ≤ ht) (fun (y : Nat) (vd : Value) (vq : Value) => ht - y) 0 nilS nilS ?_ ?_ ?_
 · exact Sub.cons rfl $ Sub.cons rfl $ S1 rfl
 · exact ⟨hM, Nat.zero_le _⟩
 rintro y vd vq w4 ⟨hM, hy⟩
 refine C.seq $ Kb $ Km rfl $ E.fld (o := 1) (sz := 0) rfl U24 rfl rfl (by kernel_rfl) rfl $ E.load rfl U3 rfl (hM.bcell 0 rfl rfl) rfl $ Kp rfl $ Ka $ C.cond' rfl (fun hC3 => ?_) (fun hC3 => ?_)
 ·
  have hy' : y < ht := by omega
  have hm1 := mul_le (w := wd) (y := y) (h := ht) (by omega)
  have hm2 : (y + 1) * wd = y * wd + wd := by rw [Nat.add_mul, Nat.one_mul]
  have hcl := cutw_len hn hy'
  rw [hm2] at hcl
  have hpl := prow_len hn hy' hd
  have hpp : (pri pix wd (dep pix) y) = [] ∨ (pri pix wd (dep pix) y).length = (prow pix wd (dep pix) y).length := by
   cases y with
   | zero => exact .inl rfl
   | succ y => exact .inr (by rw [hpl]; exact prow_len hn (by omega) hd)
  have hdy := hdl y (by omega)
  have hdm : y * wid wd (dep pix) ≤ ht * wid wd (dep pix) := Nat.mul_le_mul_right _ hy
  have hrl : (prow pix wd (dep pix) y).length ≤ 1000000 := by rw [hpl]; rcases hd with e | e <;> rw [e] <;> omega
  have hfl := fun k => fil_len k (prow pix wd (dep pix) y) (pri pix wd (dep pix) y)
  refine Kk $ C.seq $ C.block $ Kb $ E.fld (o := 2) (sz := 0) rfl U24 rfl rfl (by kernel_rfl) rfl $ E.load rfl U22 rfl (hM.bcell 0 rfl rfl) rfl $ Km rfl $ E.fld (o := 0) (sz := 0) rfl U24 rfl rfl (by kernel_rfl) rfl $ E.load rfl U3 rfl (hM.bcell 0 rfl rfl) rfl $ E.mulN (a := y) (b := wd) rfl rfl (by omega) rfl $ Km rfl $ E.fld (o := 0) (sz := 0) rfl U24 rfl rfl (by kernel_rfl) rfl $ E.load rfl U3 rfl (hM.bcell 0 rfl rfl) rfl $ E.mulN (a := y) (b := wd) rfl rfl (by omega) rfl $ E.fld (o := 0) (sz := 0) rfl U24 rfl rfl (by kernel_rfl) rfl $ E.load rfl U3 rfl (hM.bcell 0 rfl rfl) rfl $ E.addN (a := y * wd) (b := wd) rfl rfl (by omega) rfl $ E.slcP (y * wd) (y * wd + wd) rfl (.inl rfl) (.inl rfl) (hM.arg0 hp) U22 (by kernel_rfl) (by omega) (by omega) rfl ?_
  refine Km rfl $ E.call rfl rfl (packed35_ret _ (cutL (y * wd) (y * wd + wd) pix) (dep pix) _ ((hM.arg0 hp).partV (by omega) (by omega)) ((dep_cases pix).imp id (fun h x hx => h.2 x (mem_cut hx))) (by omega)) ?_
  rintro v64 w5 m
  rw [show pck (cutL (y * wd) (y * wd + wd) pix) (dep pix) = (prow pix wd (dep pix) y) from by rw [prow, hm2]] at m
  have hM := hM.call m
  refine Kd rfl $ Kf rfl $ E.call rfl rfl (rFil_ret 0 v64 vq (prow pix wd (dep pix) y) (pri pix wd (dep pix) y) _ (hM.sl 3 rfl) (hM.sl 2 rfl) hrl (by decide) hpp) ?_
  rintro _ w6 ⟨vo1, rfl, m1⟩
  have hM := hM.call m1
  refine Km rfl $ E.ext rfl rfl rfl $ E.ext rfl rfl rfl $ Kn rfl $ Kd rfl $ Kc rfl $ C.seq $ Kb $ Kc rfl $ C.block $ C.loop2 [(1, _), (4, _), (6, _), (7, _), (8, _), (9, _)] rfl (fun (k : Nat) (vb : Value) => [(10, vb), (12, i64 (bsk (prow pix wd (dep pix) y) (pri pix wd (dep pix) y) k : Int)), (13, i64 (k + 1 : Nat))]) (fun (k : Nat) (vb : Value) w' => M w (Nn) w' [Rg.blk b1 24 [i64 (wd : Int), i64 (ht : Int), vp], Rg.sl u8 5 vd (dta pix wd (dep pix) y), Rg.sl u8 5 vq (pri pix wd (dep pix) y), Rg.sl u8 5 v64 (prow pix wd (dep pix) y), Rg.sl u8 5 vb (fil (bsk (prow pix wd (dep pix) y) (pri pix wd (dep pix) y) k) (prow pix wd (dep pix) y) (pri pix wd (dep pix) y))] ∧ k ≤ 4) (fun (k : Nat) (vb : Value) => 4 - k) 0 vo1 ?_ ?_ ?_
  · exact Sub.cons rfl $ Sub.cons rfl $ S1 rfl
  · exact ⟨hM, by omega⟩
  rintro k vb w7 ⟨hM, hk⟩
  refine C.seq $ Kb $ Km rfl $ Kp rfl $ Ka $ C.cond' rfl (fun hC4 => ?_) (fun hC4 => ?_)
  ·
   have hk' : k < 4 := by omega
   have hf1 := hfl (k + 1)
   have hf2 := hfl (bsk (prow pix wd (dep pix) y) (pri pix wd (dep pix) y) k)
   refine Kk $ C.cut1 [(1, _), (4, _), (6, _), (7, _), (8, _), (9, _), (13, _)] rfl (fun (vb2 : Value) => [(10, vb2), (12, i64 (bsk (prow pix wd (dep pix) y) (pri pix wd (dep pix) y) (k + 1) : Int))]) (fun (vb2 : Value) w' => M w (Nn) w' [Rg.blk b1 24 [i64 (wd : Int), i64 (ht : Int), vp], Rg.sl u8 5 vd (dta pix wd (dep pix) y), Rg.sl u8 5 vq (pri pix wd (dep pix) y), Rg.sl u8 5 v64 (prow pix wd (dep pix) y), Rg.sl u8 5 vb2 (fil (bsk (prow pix wd (dep pix) y) (pri pix wd (dep pix) y) (k + 1)) (prow pix wd (dep pix) y) (pri pix wd (dep pix) y))]) ?_ ?_
   ·
    refine C.block $ Kb $ Kf rfl $ Km rfl $ E.call rfl rfl (rFil_ret (k + 1) v64 vq (prow pix wd (dep pix) y) (pri pix wd (dep pix) y) _ (hM.sl 3 rfl) (hM.sl 2 rfl) hrl (by omega) hpp) ?_
    rintro _ w8 ⟨vo2, rfl, m2⟩
    have hM := hM.call m2
    refine Km rfl $ E.ext rfl rfl rfl $ E.ext rfl rfl rfl $ Kn rfl $ Kd rfl $ Km rfl $ E.call rfl rfl (cost35_ret vo2 (fil (k + 1) (prow pix wd (dep pix) y) (pri pix wd (dep pix) y)) _ (hM.sl 5 rfl) (by omega)) ?_
    rintro _ w9 ⟨rfl, x9⟩
    have hM := hM.ext x9
    refine Km rfl $ E.call rfl rfl (cost35_ret vb (fil (bsk (prow pix wd (dep pix) y) (pri pix wd (dep pix) y) k) (prow pix wd (dep pix) y) (pri pix wd (dep pix) y)) _ (hM.sl 4 rfl) (by omega)) ?_
    rintro _ w10 ⟨rfl, x10⟩
    have hM := hM.ext x10
    refine Kp rfl $ Ka $ C.cond' rfl (fun hC5 => ?_) (fun hC5 => ?_)
    ·
     refine C.region $ Kf rfl $ Kn rfl $ Kn rfl $ E.nil $ X.outN $ ?_
     have hbs : bsk (prow pix wd (dep pix) y) (pri pix wd (dep pix) y) (k + 1) = k + 1 := by rw [bsk, if_pos (by omega)]
     refine X.join1 vo2 (Sub.cons rfl $ Sub.cons (look_val rfl (by rw [hbs])) $ Sub.nil _) rfl (by rw [hbs]; exact hM.pick [0, 1, 2, 3, 5] (by decide))
    refine C.skip $ X.outN $ ?_
    have hbf : bsk (prow pix wd (dep pix) y) (pri pix wd (dep pix) y) (k + 1) = bsk (prow pix wd (dep pix) y) (pri pix wd (dep pix) y) k := by rw [bsk, if_neg (by omega)]
    refine X.join1 vb (Sub.cons rfl $ Sub.cons (look_val rfl (by rw [hbf])) $ Sub.nil _) rfl (by rw [hbf]; exact hM.pick [0, 1, 2, 3, 4] (by decide))
   rintro vb2 w11 hM
   refine C.region $ Km rfl $ E.add rfl rfl (by omega) rfl $ Kn rfl $ E.nil $ X.again2 (k + 1) vb2 (Sub.cons rfl $ Sub.cons rfl $ S1 rfl) rfl ⟨hM, by omega⟩ (by omega)
  obtain rfl : k = 4 := by omega
  have hf4 := hfl (bsk (prow pix wd (dep pix) y) (pri pix wd (dep pix) y) 4)
  refine Kx $ Kb $ Kf rfl $ E.conv rfl U3 U5 (c := ((UInt8.ofNat (bsk (prow pix wd (dep pix) y) (pri pix wd (dep pix) y) 4)).toNat : Int)) (wrap8 _) rfl $ E.pushM 1 (UInt8.ofNat (bsk (prow pix wd (dep pix) y) (pri pix wd (dep pix) y) 4)) hM rfl rfl rfl U22 elem_Tuint8 rfl (by omega) (by omega) (by simp) rfl rfl ?_
  intro v93 u93 w12 hM
  refine Kd rfl $ Kf rfl $ E.appendM 1 hM rfl rfl rfl U22 elem_Tuint8 (hM.sl 4 rfl) (fun _ => rfl) (by rw [List.length_append, List.length_singleton]; omega) (by rw [List.length_append, List.length_singleton]; omega) rfl ?_
  intro v96 w13 hM
  refine Kc rfl $ C.region $ Km rfl $ Kn rfl $ E.nil $ X.outN $ X.next $ C.region $ Km rfl $ E.add rfl rfl (by omega) rfl $ Kn rfl $ E.nil $ ?_
  rw [show (dta pix wd (dep pix) y) ++ [UInt8.ofNat (bsk (prow pix wd (dep pix) y) (pri pix wd (dep pix) y) 4)] ++ fil (bsk (prow pix wd (dep pix) y) (pri pix wd (dep pix) y) 4) (prow pix wd (dep pix) y) (pri pix wd (dep pix) y) = dta pix wd (dep pix) (y + 1) from by rw [dta, bst, List.append_assoc]; rfl] at hM
  refine X.again3 (y + 1) _ _ (Sub.cons rfl $ Sub.cons rfl $ S1 rfl) rfl ⟨hM.pick [0, 1, 3] (by decide), by omega⟩ (by omega)
 obtain rfl : y = ht := by omega
 refine Kx $ Kb $ Km rfl $ E.call rfl rfl (Wrap35_ret vd (dta pix wd (dep pix) y) _ (hM.sl 1 rfl) (by omega)) ?_
 rintro _ w7 ⟨v100, rfl, m⟩
 have hM := hM.call m
 obtain ⟨x100, rfl⟩ := own_head (hM.own 3 rfl)
 refine Km rfl $ E.ext rfl rfl rfl $ E.ext rfl rfl rfl $ Kn rfl $ Kc rfl $ C.seq $ Kb $ Km rfl $ Kp rfl $ Ka $ C.cond' rfl (fun hC6 => ?_) (fun hC6 => ?_)
 ·
  exact absurd rfl hC6
 refine Kk $ C.seq $ C.heldE (by kernel_rfl) fun wh15 hwh15 _ => ?_
 have hS := hwh15
 have hM0 := hM
 have hM := M.ofExt hwh15
 refine Ku 0 rfl (by kernel_rfl) hS (Y.fld (o := 0) (sz := 0) rfl U24 rfl rfl (by kernel_rfl)) (fun w' hS => by have hM := hM0.ext hS; exact Y.fld (o := 0) (sz := 0) rfl U24 rfl rfl (by kernel_rfl)) rfl $ Ku 3 rfl (by kernel_rfl) hS (Y.fld (o := 1) (sz := 0) rfl U24 rfl rfl (by kernel_rfl)) (fun w' hS => by have hM := hM0.ext hS; exact Y.fld (o := 1) (sz := 0) rfl U24 rfl rfl (by kernel_rfl)) rfl $ Ku 1 rfl (by kernel_rfl) hS (Y.load rfl U3 rfl ((hM0.ext hS).bcell 0 rfl rfl)) (fun w' hS => by have hM := hM0.ext hS; exact Y.load rfl U3 rfl (hM.bcell 0 rfl rfl)) rfl $ Ku 4 rfl (by kernel_rfl) hS (Y.load rfl U3 rfl ((hM0.ext hS).bcell 0 rfl rfl)) (fun w' hS => by have hM := hM0.ext hS; exact Y.load rfl U3 rfl (hM.bcell 0 rfl rfl)) rfl $ H.only 2 rfl (by kernel_rfl) $ E.call rfl rfl (four35_ret wd _ (by omega)) ?_
 rintro v108 w16 m1
 have hM := hM.call m1
 have hS := hM.toExt
 refine H.back hS $ H.only 5 rfl (by kernel_rfl) $ E.call rfl rfl (four35_ret y _ (by omega)) ?_
 rintro v111 w17 m2
 have hM := hM.call m2
 have hS := hM.toExt
 refine H.back hS $ H.only 6 rfl (by kernel_rfl) $ E.appendM 0 hM rfl rfl rfl U22 elem_Tuint8 (hM.sl 1 rfl) (fun _ => rfl) (by simp [Jn.enc4_len]) (by simp [Jn.enc4_len]) rfl ?_
 intro v112 w18 hM
 have hS := hM.toExt
 refine H.back hS $ Kt 7 rfl (by kernel_rfl) hS (fun w' hS => by have hM := hM0.ext hS; exact Y.asg rfl) rfl $ H.done (by kernel_rfl) ?_
 have hM := hM0.call hM
 refine X.next $ Kb $ Kf rfl $ E.conv rfl U3 U5 (c := ((UInt8.ofNat (dep pix)).toNat : Int)) (wrap8 _) rfl $ E.mkM (enc := u8) (e := 5) [UInt8.ofNat (dep pix), 0, 0, 0, 0] hM rfl (fun _ => by kernel_rfl) rfl rfl rfl ?_
 intro v116 w19 hM
 refine E.appendM 4 hM rfl rfl rfl U22 elem_Tuint8 (hM.sl 6 rfl) (fun _ => rfl) (by simp [Jn.enc4_len]) (by simp [Jn.enc4_len]) rfl ?_
 intro v117 w20 hM
 obtain ⟨x117, rfl⟩ := own_head (hM.own 4 rfl)
 refine Kd rfl $ Km rfl $ E.buildC (cs := [_, _]) [.string .empty, .slice none 0 0] [0, 1] rfl rfl (by kernel_rfl) rfl $ Km rfl $ E.buildC (cs := [_, _]) [.string .empty, .slice none 0 0] [0, 1] rfl rfl (by kernel_rfl) rfl $ E.buildC (cs := [_, _]) [.string .empty, .slice none 0 0] [0] rfl rfl (by kernel_rfl) rfl $ E.mkFM (enc := cke) (sz := 2) (e := 39) (zc (wck wd y pix) [x117, x100, (none, 0, 0)]) hM rfl (fun _ => by kernel_rfl) rfl (by decide) (fun a ha => rfl) rfl ?_
 intro v123 w123 hM
 have hwl := wrv_len (pix := pix) (w := wd) (h := y) (by omega)
 have hbb : ∀ c ∈ wck wd y pix, c.1.length ≤ 1000000 ∧ c.2.length ≤ 4194304 := fun c hc => by
  have : c = (tH, hdr wd y (dep pix)) ∨ c = (tD, Df.wrv (dta pix wd (dep pix) y) 2) ∨ c = (tE, []) := by simpa [wck] using hc
  rcases this with rfl | rfl | rfl
  · exact ⟨by simp [tH], by rw [hdr_len]; decide⟩
  · exact ⟨by simp [tD], by show (Df.wrv (dta pix wd (dep pix) y) 2).length ≤ _; omega⟩
  exact ⟨by decide, by decide⟩
 refine E.call rfl rfl (Join35_ret _ [x117, x100, (none, 0, 0)] (wck wd y pix) _ ⟨hM.slF 7 rfl, bag3 (hM.sl 4 rfl) (hM.sl 3 rfl) rdl_nil⟩ hbb) ?_
 rintro _ w12 ⟨v124, out, e, rfl, x124, r124, hj⟩
 have hM := hM.ext x124
 rw [wck_jn (by omega)] at hj
 obtain ⟨rfl, rfl⟩ : 0 = e ∧ wri wd y pix = out := by
  rcases hj with ⟨h1, h2⟩ | ⟨_, h2, _⟩
  · cases h2; exact ⟨h1.symm, rfl⟩
  cases h2
 refine E.ext rfl rfl rfl $ E.ext rfl rfl rfl $ Kn rfl $ Kc rfl $ C.ret $ ret2 rfl rfl rfl ?_
 exact ⟨v124, _, 0, rfl, hM.toExt, r124, .inl ⟨hv, rfl, by rw [Int.toNat_natCast, Int.toNat_natCast]⟩⟩
end Go.Proofs.YtajklleiifhipaaGreatDoor
namespace Go.Proofs.YtajklleiifhipaaGreatDoor
open Go.RowKit Sym
open Pg
set_option maxHeartbeats 1000000 in
theorem PngWrites_ret (W H : Int) (vp : Value) (pix : List UInt8) (w : World) (hp : RdL u8 w vp pix) (hO : Ord w) :
  Ret Tryz.prog 3 #[imv W H vp] w fun v w' => v = .bool true ∧ Ext w w' := by
 have hM := M.start w
 refine enter Tryz.func3 rfl (by kernel_rfl) Tryz.ntmps3 rfl $ Kb $ E.boxM hM rfl rfl rfl ?_
 intro b1 w0 hM
 refine Kc rfl $ C.seq $ Kb $ E.fld (o := 2) (sz := 0) rfl U24 rfl rfl (by kernel_rfl) rfl $ E.load rfl U22 rfl (hM.bcell 0 rfl rfl) rfl $ E.lenv rfl (Rd.shape (hM.arg0 hp)) U22 rfl $ Kp rfl $ Ka $ C.cond' rfl (fun hC0 => ?_) (fun hC0 => ?_)
 ·
  refine Kb $ E.call rfl rfl (example_ret _ (hM.ord0 hO)) ?_
  rintro _ wz ⟨rfl, xz⟩
  have hM := hM.ext xz
  refine Kc rfl $ C.ret $ X.retT $ ret1 rfl rfl ?_
  exact ⟨rfl, hM.toExt⟩
 refine Kk $ Kb $ E.loadA (cs := [i64 W, i64 H, vp]) rfl U24 rfl (by kernel_rfl) (hM.bat 0 rfl) rfl $ E.call rfl rfl (Write_ret W H vp pix _ (hM.arg0 hp) (by omega) (hM.ord0 hO)) ?_
 rintro _ wq1 ⟨vw, out1, e1, rfl, mw, hw1⟩
 have hM := hM.call mw
 refine Km rfl $ E.ext rfl rfl rfl $ E.ext rfl rfl rfl $ Kn rfl $ Kd rfl $ E.loadA (cs := [i64 W, i64 H, vp]) rfl U24 rfl (by kernel_rfl) (hM.bat 0 rfl) rfl $ E.call rfl rfl (Write35_ret W H vp pix _ (hM.arg0 hp) (by omega)) ?_
 rintro _ wq2 ⟨vq, out2, e2, rfl, x2, r2, hw2⟩
 have hM := hM.ext x2
 obtain ⟨rfl, rfl⟩ : out1 = out2 ∧ e1 = e2 := by
  rcases hw1 with ⟨a, b, c⟩ | ⟨a, b, c⟩ <;> rcases hw2 with ⟨a', b', c'⟩ | ⟨a', b', c'⟩
  · exact ⟨c.trans c'.symm, b.trans b'.symm⟩
  · exact (a' a).elim
  · exact (a a').elim
  exact ⟨c.trans c'.symm, b.trans b'.symm⟩
 refine Km rfl $ E.ext rfl rfl rfl $ E.ext rfl rfl rfl $ Kn rfl $ Kc rfl $ C.cut0 [] rfl [(2, .bool true)] (fun w' => M w (Nn) w' []) ?_ ?_
 ·
  refine C.region $ Kf rfl $ Kp rfl $ Km rfl $ E.split 25 rfl (fun g25 => ?_) (fun g25 => ?_)
  ·
   try simp only [Ya, Yb, Yc, Yd, Ye, Yf] at g25
   refine Ko rfl $ Km rfl $ Ko rfl $ E.bstr rfl (hM.sl 1 rfl) U22 U5 U9 rfl $ Ko rfl $ Km rfl $ Ko rfl $ E.bstr rfl (r2) U22 U5 U9 rfl $ Ko rfl $ E.eqstr (l := out1) (m := out1) rfl rfl rfl $ Kr rfl $ Km rfl $ E.split 32 rfl (fun g32 => ?_) (fun g32 => ?_)
   ·
    try simp only [Ya, Yb, Yc, Yd, Ye, Yf] at g32
    refine Ko rfl $ E.call rfl rfl (example_ret _ (hM.ord0 hO)) ?_
    rintro _ wz ⟨rfl, xz⟩
    have hM := hM.ext xz
    refine Kr rfl $ Kn rfl $ E.nil $ X.join0  (S1 rfl) rfl (hM.pick [] (by decide))
   try simp only [Ya, Yb, Yc, Yd, Ye, Yf] at g32
   simp at g32
  try simp only [Ya, Yb, Yc, Yd, Ye, Yf] at g25
  simp at g25
 rintro  w5 hM
 refine C.ret $ ret1 rfl rfl ?_
 exact ⟨rfl, hM.toExt⟩
end Go.Proofs.YtajklleiifhipaaGreatDoor
