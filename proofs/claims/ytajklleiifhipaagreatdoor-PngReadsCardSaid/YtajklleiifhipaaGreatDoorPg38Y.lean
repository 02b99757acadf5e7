/- the reference's Read. -/
import Derived.Test.YtajklleiifhipaaGreatDoorY0
import Derived.Test.YtajklleiifhipaaGreatDoorY3
import Derived.Test.YtajklleiifhipaaGreatDoorY5
import Derived.Test.YtajklleiifhipaaGreatDoorPg15Y
import Derived.Test.YtajklleiifhipaaGreatDoorPg19Y
import Derived.Test.YtajklleiifhipaaGreatDoorPg35Y
import Derived.Test.YtajklleiifhipaaGreatDoorPg37Y
set_option linter.unusedSimpArgs false
set_option linter.unusedVariables false
namespace Go.Proofs.YtajklleiifhipaaGreatDoor
open Go.RowKit Sym
open Pg
set_option maxHeartbeats 8000000 in
set_option maxRecDepth 4000 in
theorem Read35_ret (p : Value) (l : List UInt8) (w : World) (hl : RdL u8 w p l) :
  Ret Tryz.prog 9 #[p] w fun v w' => ∃ (W H : Int) (vp : Value) (pix : List UInt8) (e : Int), v = .tuple #[imv W H vp, i64 e] ∧ M w Nn w' [Rg.sl u8 5 vp pix] ∧ RdiV (rdi l) W H pix e := by
 have hM := M.start w
 refine enter Tryz.func9 rfl (by kernel_rfl) Tryz.ntmps9 rfl $ Kb $ E.allocM (z := .agg #[.int .i64 0, .int .i64 0, .slice none 0 0]) (cs := [.int .i64 0, .int .i64 0, .slice none 0 0]) hM (by kernel_rfl) rfl rfl ?_
 intro b2 w0 hM
 try dsimp only [Za, Zb, Zc, Zd, repl] at hM
 refine Kd rfl $ Km rfl $ E.call rfl rfl (Chunks35_ret p l _ (hM.arg0 hl)) ?_
 rintro _ w1 ⟨vo, hs, cs, e, rfl, m, hv⟩
 have hM := hM.call m
 try dsimp only [Za, Zb, Zc, Zd, repl] at hM
 refine Km rfl $ E.ext rfl rfl rfl $ E.ext rfl rfl rfl $ Kn rfl $ Kc rfl $ C.seq $ Kb $ Km rfl $ Kp rfl $ Ka $ C.cond' rfl (fun hC0 => ?_) (fun hC0 => ?_)
 ·
  obtain ⟨hne, hrd, _⟩ := hv.resolve_left (fun h => hC0 h.1)
  refine Kb $ E.buildC (cs := [_, _, _]) [.int .i64 0, .int .i64 0, .slice none 0 0] [] rfl rfl (by kernel_rfl) rfl $ Km rfl $ E.storeAM 0 hM rfl rfl rfl (by kernel_rfl) rfl (ones rfl $ ones rfl $ ones rfl $ ones_nil) ?_
  intro w2 hM
  try dsimp only [Za, Zb, Zc, Zd, repl] at hM
  refine Kc rfl $ C.ret $ X.retT $ retAT rfl rfl rfl U24 rfl (by exact hM.blk 0 rfl) (by kernel_rfl) ?_
  exact ⟨0, 0, nilS, [], e, rfl, (hM.pick [] (by decide)).nil u8 5, .inr ⟨hne, by rw [rdi_e hrd], rfl, rfl, rfl⟩⟩
 obtain ⟨rfl, hrd⟩ := hv.resolve_right (fun h => hC0 h.1)
 obtain ⟨hg, hl1, hl2, hl3⟩ := rdf_ok hrd
 have hg4 := gd_let hg
 have hlen : 8 + csz cs ≤ 4194304 := by
  have := congrArg List.length hl2
  rw [List.length_append, cks_len (fun x hx => (hg4 x hx).1), show sig.length = 8 from rfl] at this; omega
 obtain ⟨c, r, rfl⟩ : ∃ c r, cs = c :: r := by
  cases cs with
  | nil => exact hg.elim
  | cons c r => exact ⟨c, r, rfl⟩
 obtain ⟨h0, hr, rfl⟩ : ∃ h0 hr, hs = h0 :: hr := by
  have := (hM.cks 1 2 rfl rfl).len
  cases hs with
  | nil => simp at this
  | cons h0 hr => exact ⟨h0, hr, rfl⟩
 have hdl := dtc_le (c :: r)
 have hl1c := hl1
 rw [List.length_cons] at hl1
 refine Kk $ C.seq $ Kb $ Km rfl $ E.call rfl rfl (formed35_ret vo h0 hr c r _ (hM.cks 1 2 rfl rfl) (fun x hx => hg4 x (by simp [hx])) (by omega)) ?_
 rintro _ w3 ⟨b, rfl, hbf, x3⟩
 have hM := hM.ext x3
 try dsimp only [Za, Zb, Zc, Zd, repl] at hM
 refine E.not rfl rfl $ Ka $ C.cond rfl (fun hC1 => ?_) (fun hC1 => ?_)
 ·
  have hbad : c.1 ≠ tH ∨ c.2.length ≠ 13 ∨ fmd 0 r = false := Decidable.byContradiction fun q => by
   have h1 : b = true := hbf.2 ⟨Decidable.byContradiction fun h => q (.inl h), Decidable.byContradiction fun h => q (.inr (.inl h)), by cases h : fmd 0 r with | true => rfl | false => exact (q (.inr (.inr h))).elim⟩
   rw [h1] at hC1; simp at hC1
  refine Kb $ E.buildC (cs := [_, _, _]) [.int .i64 0, .int .i64 0, .slice none 0 0] [] rfl rfl (by kernel_rfl) rfl $ E.storeAM 0 hM rfl rfl rfl (by kernel_rfl) rfl (ones rfl $ ones rfl $ ones rfl $ ones_nil) ?_
  intro w4 hM
  try dsimp only [Za, Zb, Zc, Zd, repl] at hM
  refine Kc rfl $ C.ret $ X.retT $ retAT rfl rfl rfl U24 rfl (by exact hM.blk 0 rfl) (by kernel_rfl) ?_
  exact ⟨0, 0, nilS, [], 9, rfl, (hM.pick [] (by decide)).nil u8 5, .inr ⟨by decide, by rw [rdi_f hrd hbad], rfl, rfl, rfl⟩⟩
 have hgood := hbf.1 (by simpa using hC1)
 have himg := rdi_i hrd hgood
 refine Kk $ Kb $ Km rfl $ E.idxF (k := 0) rfl rfl (hM.cks 1 2 rfl rfl).row rfl (by rw [zc_len (hM.cks 1 2 rfl rfl).len]; simp) (by decide) U35 (by kernel_rfl) rfl $ E.fld (o := 1) (sz := 0) rfl U39 rfl rfl (by kernel_rfl) rfl $ E.load rfl U22 rfl ((hM.cks 1 2 rfl rfl).at (i := 0) (by simp) 1 _ rfl) rfl $ E.call rfl rfl (header35_ret (slv h0) c.2 _ (hM.cks 1 2 rfl rfl).hd hgood.2.1) ?_
 rintro _ w5 ⟨W, H, D, e2, rfl, x5, hh⟩
 have hM := hM.ext x5
 try dsimp only [Za, Zb, Zc, Zd, repl] at hM
 refine Km rfl $ E.ext rfl rfl rfl $ E.ext rfl rfl rfl $ E.ext rfl rfl rfl $ E.ext rfl rfl rfl $ Kn rfl $ Kn rfl $ Kn rfl $ Kc rfl $ C.seq $ Kb $ Km rfl $ Kp rfl $ Ka $ C.cond' rfl (fun hC2 => ?_) (fun hC2 => ?_)
 ·
  obtain ⟨hne, hie⟩ := hh.resolve_right (fun h => hC2 h.1)
  refine Kb $ E.buildC (cs := [_, _, _]) [.int .i64 0, .int .i64 0, .slice none 0 0] [] rfl rfl (by kernel_rfl) rfl $ Km rfl $ E.storeAM 0 hM rfl rfl rfl (by kernel_rfl) rfl (ones rfl $ ones rfl $ ones rfl $ ones_nil) ?_
  intro w6 hM
  try dsimp only [Za, Zb, Zc, Zd, repl] at hM
  refine Kc rfl $ C.ret $ X.retT $ retAT rfl rfl rfl U24 rfl (by exact hM.blk 0 rfl) (by kernel_rfl) ?_
  exact ⟨0, 0, nilS, [], e2, rfl, (hM.pick [] (by decide)).nil u8 5, .inr ⟨hne, by rw [himg, hie], rfl, rfl, rfl⟩⟩
 obtain ⟨_, wd, ht, d, rfl, rfl, rfl, hwd, hht, hd, hn2, hn3, hn4⟩ := hh.resolve_left (fun h => hC2 h.1)
 rw [img, ← hwd, ← hht, ← hd, if_neg hn2, if_neg hn3, if_neg hn4] at himg
 refine Kk $ Kb $ Kd rfl $ Kc rfl $ C.seq $ Kb $ Kc rfl $ C.block $ ?_
 have hM := hM.nil u8 5
 try dsimp only [List.nil_append, List.cons_append] at hM
 refine C.loop2 [(2, _), (4, _), (6, _), (7, _), (8, _)] rfl (fun (k : Nat) (vz : Value) => [(10, vz), (11, .bool (anyD ((c :: r).take k))), (12, i64 k)]) (fun (k : Nat) (vz : Value) w' => M w (Nn) w' (Rg.blk b2 24 [i64 0, i64 0, nilS] :: ChR vo (h0 :: hr) (c :: r) ++ [Rg.sl u8 5 vz (dtc ((c :: r).take k))]) ∧ k ≤ (c :: r).length) (fun (k : Nat) (vz : Value) => (c :: r).length - k) 0 nilS ?_ ?_ ?_
 · exact Sub.cons rfl $ Sub.cons rfl $ S1 rfl
 · exact ⟨hM, Nat.zero_le _⟩
 rintro k vz w7 ⟨hM, hk⟩
 refine C.seq $ Kb $ Kf rfl $ E.lenv rfl (RdF.shape (hM.cks 1 2 rfl rfl).row) U35 rfl ?_
 rw [zc_len (hM.cks 1 2 rfl rfl).len]
 refine Kp rfl $ Ka $ C.cond' rfl (fun hC3 => ?_) (fun hC3 => ?_)
 ·
  have hk' : k < (c :: r).length := by omega
  have hdk : (dtc ((c :: r).take k)).length + (dtc ((c :: r).drop k)).length = (dtc (c :: r)).length := by rw [← List.length_append, ← dat_app, List.take_append_drop]
  refine Kk $ C.cut1 [(2, _), (4, _), (6, _), (7, _), (8, _), (12, _)] rfl (fun (vz2 : Value) => [(10, vz2), (11, .bool (anyD ((c :: r).take (k + 1))))]) (fun (vz2 : Value) w' => M w (Nn) w' (Rg.blk b2 24 [i64 0, i64 0, nilS] :: ChR vo (h0 :: hr) (c :: r) ++ [Rg.sl u8 5 vz2 (dtc ((c :: r).take (k + 1)))])) ?_ ?_
  ·
   refine C.block $ Kb $ Kf rfl $ E.idxF (k := k) rfl rfl (hM.cks 1 2 rfl rfl).row rfl (by rw [zc_len (hM.cks 1 2 rfl rfl).len]; omega) (by decide) U35 (by kernel_rfl) rfl $ E.fld (o := 0) (sz := 0) rfl U39 rfl rfl (by kernel_rfl) rfl $ E.load rfl U9 rfl ((hM.cks 1 2 rfl rfl).at (i := k) hk' 0 _ rfl) rfl $ E.eqstr (l := ((c :: r)[k]'hk').1) (m := tD) rfl rfl rfl $ Ka $ C.cond rfl (fun hC4 => ?_) (fun hC4 => ?_)
   ·
    have hcd : ((c :: r)[k]'hk').1 = tD := by simpa using hC4
    have hdt := dat_t hk' hcd
    have hdc : ((c :: r)[k]'hk').2.length ≤ (dtc ((c :: r).drop k)).length := by rw [List.drop_eq_getElem_cons hk', dtc, if_pos hcd, List.length_append]; omega
    refine Kb $ Kf rfl $ Km rfl $ E.idxF (k := k) rfl rfl (hM.cks 1 2 rfl rfl).row rfl (by rw [zc_len (hM.cks 1 2 rfl rfl).len]; omega) (by decide) U35 (by kernel_rfl) rfl $ E.fld (o := 1) (sz := 0) rfl U39 rfl rfl (by kernel_rfl) rfl $ E.load rfl U22 rfl ((hM.cks 1 2 rfl rfl).at (i := k) hk' 1 _ rfl) rfl $ E.appendM 3 hM rfl rfl rfl U22 elem_Tuint8 ((hM.cks 1 2 rfl rfl).data hk') (fun _ => rfl) (by omega) (by omega) rfl ?_
    intro v66 w8 hM
    try dsimp only [Za, Zb, Zc, Zd, repl] at hM
    refine Kc rfl $ C.region $ Kn rfl $ E.nil $ X.outN $ ?_
    rw [← hdt] at hM
    refine X.join1 _ (Sub.cons rfl $ Sub.cons (look_eq rfl (congrArg Value.bool (any_t hk' hcd).symm)) $ Sub.nil _) rfl (hM.pick [0, 1, 2, 3] (by decide))
   have hcd : ((c :: r)[k]'hk').1 ≠ tD := by simpa using hC4
   refine C.skip $ X.outN $ X.join1 vz (Sub.cons rfl $ Sub.cons (look_eq rfl (congrArg Value.bool (any_f hk' hcd).symm)) $ Sub.nil _) rfl (by rw [dat_f hk' hcd]; exact hM)
  rintro vz2 w9 hM
  refine C.region $ Km rfl $ E.add rfl rfl (by omega) rfl $ Kn rfl $ E.nil $ X.again2 (k + 1) vz2 (Sub.cons rfl $ Sub.cons rfl $ S1 rfl) rfl ⟨hM, by omega⟩ (by omega)
 obtain rfl : k = (c :: r).length := by omega
 have hne1 : c.1 ≠ tD := fun h => by rw [hgood.1] at h; revert h; decide
 rw [List.take_length] at hM ⊢
 rw [show dtc (c :: r) = dtc r from by rw [dtc, if_neg hne1]] at hM hdl
 rw [show anyD (c :: r) = anyD r from by rw [anyD, if_neg hne1]]
 refine Kx $ C.seq $ Kb $ Km rfl $ E.not rfl rfl $ Ka $ C.cond rfl (fun hC5 => ?_) (fun hC5 => ?_)
 ·
  have hany : anyD r = false := by simpa using hC5
  refine Kb $ E.buildC (cs := [_, _, _]) [.int .i64 0, .int .i64 0, .slice none 0 0] [] rfl rfl (by kernel_rfl) rfl $ E.storeAM 0 hM rfl rfl rfl (by kernel_rfl) rfl (ones rfl $ ones rfl $ ones rfl $ ones_nil) ?_
  intro w10 hM
  try dsimp only [Za, Zb, Zc, Zd, repl] at hM
  refine Kc rfl $ C.ret $ X.retT $ retAT rfl rfl rfl U24 rfl (by exact hM.blk 0 rfl) (by kernel_rfl) ?_
  exact ⟨0, 0, nilS, [], 33, rfl, (hM.pick [] (by decide)).nil u8 5, .inr ⟨by decide, by rw [himg, if_pos hany], rfl, rfl, rfl⟩⟩
 have hany : ¬ anyD r = false := by simpa using hC5
 rw [if_neg hany] at himg
 have hd4 : d = 1 ∨ d = 2 ∨ d = 4 ∨ d = 8 := by omega
 obtain ⟨q, hq⟩ : ∃ q, q = wd * d := ⟨_, rfl⟩
 have hq2 : wd * d ≤ 4096 * 8 := Nat.mul_le_mul (by omega) (by omega)
 obtain ⟨sz, hsz⟩ : ∃ s, s = wid wd d := ⟨_, rfl⟩
 have hsz2 : sz = 1 + (q + 7) / 8 := by rw [hsz, hq]; rfl
 rw [← hsz] at himg
 have hhs : ht * sz ≤ 4096 * 4097 := Nat.mul_le_mul (by omega) (by omega)
 have hwh : wd * ht ≤ 4096 * 4096 := Nat.mul_le_mul (by omega) (by omega)
 refine Kk $ Kb $ Kf rfl $ E.mulN (a := wd) (b := d) rfl rfl (by omega) rfl ?_
 rw [← hq]
 refine E.addN (a := q) (b := 7) rfl rfl (by omega) rfl $ E.quo (c := ((q + 7) / 8 : Nat)) rfl rfl (by omega) ((IntWalk.i64_quo _ _ (by omega)).trans (by omega)) rfl $ E.addN (a := (q + 7) / 8) (b := 1) rfl rfl (by omega) rfl ?_
 rw [show (q + 7) / 8 + 1 = sz by omega]
 refine Kd rfl $ Kf rfl $ Km rfl $ E.mulN (a := ht) (b := sz) rfl rfl (by omega) rfl $ E.call rfl rfl (Unwrap34_ret vz (dtc r) ((ht * sz : Nat) : Int) _ (hM.sl 3 rfl)) ?_
 rintro _ w10 ⟨v81, out, e3, rfl, m, hu⟩
 have hM := hM.call m
 try dsimp only [Za, Zb, Zc, Zd, repl] at hM
 refine Km rfl $ E.ext rfl rfl rfl $ E.ext rfl rfl rfl $ Kn rfl $ Kc rfl $ C.seq $ Kb $ Km rfl $ Kp rfl $ Ka $ C.cond' rfl (fun hC6 => ?_) (fun hC6 => ?_)
 ·
  obtain ⟨hne, hu2, _⟩ := hu.resolve_left (fun h => hC6 h.1)
  refine Kb $ E.buildC (cs := [_, _, _]) [.int .i64 0, .int .i64 0, .slice none 0 0] [] rfl rfl (by kernel_rfl) rfl $ Km rfl $ E.storeAM 0 hM rfl rfl rfl (by kernel_rfl) rfl (ones rfl $ ones rfl $ ones rfl $ ones_nil) ?_
  intro w12 hM
  try dsimp only [Za, Zb, Zc, Zd, repl] at hM
  refine Kc rfl $ C.ret $ X.retT $ retAT rfl rfl rfl U24 rfl (by exact hM.blk 0 rfl) (by kernel_rfl) ?_
  exact ⟨0, 0, nilS, [], e3, rfl, (hM.pick [] (by decide)).nil u8 5, .inr ⟨hne, by rw [himg, hu2], rfl, rfl, rfl⟩⟩
 obtain ⟨_, hu2⟩ := hu.resolve_right (fun h => hC6 h.1)
 rw [hu2] at himg
 simp only at himg
 refine Kk $ C.seq $ Kb $ Km rfl $ E.lenv rfl (Rd.shape (hM.sl 4 rfl)) U22 rfl $ Kf rfl $ E.mulN (a := ht) (b := sz) rfl rfl (by omega) rfl $ Kp rfl $ Ka $ C.cond' rfl (fun hC7 => ?_) (fun hC7 => ?_)
 ·
  refine Kb $ E.buildC (cs := [_, _, _]) [.int .i64 0, .int .i64 0, .slice none 0 0] [] rfl rfl (by kernel_rfl) rfl $ E.storeAM 0 hM rfl rfl rfl (by kernel_rfl) rfl (ones rfl $ ones rfl $ ones rfl $ ones_nil) ?_
  intro w13 hM
  try dsimp only [Za, Zb, Zc, Zd, repl] at hM
  refine Kc rfl $ C.ret $ X.retT $ retAT rfl rfl rfl U24 rfl (by exact hM.blk 0 rfl) (by kernel_rfl) ?_
  exact ⟨0, 0, nilS, [], 10, rfl, (hM.pick [] (by decide)).nil u8 5, .inr ⟨by decide, by rw [himg, if_pos (by omega)], rfl, rfl, rfl⟩⟩
 rw [if_neg (show ¬ out.length < ht * sz by omega)] at himg
 refine Kk $ Kb $ Kf rfl $ E.buildC (cs := [_, _, _]) [.int .i64 0, .int .i64 0, .slice none 0 0] [0, 1] rfl rfl (by kernel_rfl) rfl $ E.allocM (z := .agg #[.int .i64 0, .int .i64 0, .slice none 0 0]) (cs := [.int .i64 0, .int .i64 0, .slice none 0 0]) hM (by kernel_rfl) rfl rfl ?_
 intro b16 w14 hM
 try dsimp only [Za, Zb, Zc, Zd, repl] at hM
 refine E.storeAM 5 hM rfl rfl rfl (by kernel_rfl) rfl (ones rfl $ ones rfl $ ones rfl $ ones_nil) ?_
 intro w15 hM
 try dsimp only [Za, Zb, Zc, Zd, repl] at hM
 refine Ke $ Kc rfl $ C.seq $ Kb $ Kc rfl $ C.block $ ?_
 have hM := ((hM.pick [0, 4, 5] (by decide)).nil u8 5).nil u8 5
 try dsimp only [List.nil_append, List.cons_append] at hM
 refine C.loop5 [(2, _), (6, _), (7, _), (8, _), (13, _), (14, _), (16, _)] rfl (fun (y : Nat) (vq : Value) (vx : Value) (prior : (List UInt8)) (pix : (List UInt8)) => [(17, vq), (18, i64 y)]) (fun (y : Nat) (vq : Value) (vx : Value) (prior : (List UInt8)) (pix : (List UInt8)) w' => M w (Nn) w' [Rg.blk b2 24 [i64 0, i64 0, nilS], Rg.sl u8 5 v81 out, Rg.blk b16 24 [i64 (wd : Int), i64 (ht : Int), vx], Rg.sl u8 5 vx pix, Rg.sl u8 5 vq prior] ∧ y ≤ ht ∧ rwk out sz wd d y = .ok (prior, pix) ∧ pix.length = y * wd ∧ (prior = [] ∨ prior.length = sz - 1)) (fun (y : Nat) (vq : Value) (vx : Value) (prior : (List UInt8)) (pix : (List UInt8)) => ht - y) 0 nilS nilS [] [] ?_ ?_ ?_
 · exact Sub.cons rfl $ S1 rfl
 · exact ⟨hM, Nat.zero_le _, rfl, by simp, .inl rfl⟩
 rintro y vq vx prior pix w16 ⟨hM, hy, hR, hpx, hpr⟩
 refine C.seq $ Kb $ Kf rfl $ Kp rfl $ Ka $ C.cond' rfl (fun hC8 => ?_) (fun hC8 => ?_)
 ·
  have hy' : y < ht := by omega
  have hm1 : (y + 1) * sz ≤ ht * sz := Nat.mul_le_mul_right _ (by omega)
  have hm2 : (y + 1) * sz = y * sz + sz := by rw [Nat.add_mul, Nat.one_mul]
  have hm3 : y * wd ≤ ht * wd := Nat.mul_le_mul_right _ hy
  rw [Nat.mul_comm ht wd] at hm3
  have hcl : (cutL (y * sz + 1) ((y + 1) * sz) out).length = sz - 1 := by rw [cut_len2 (by omega)]; omega
  have hal := at_le out (y * sz)
  refine Kk $ C.seq $ C.block $ C.seq $ C.heldE (by kernel_rfl) fun wh17 hwh17 _ => ?_
  have hS := hwh17
  have hM0 := hM
  have hM := M.ofExt hwh17
  refine Kt 0 rfl (by kernel_rfl) hS (fun w' hS => by have hM := hM0.ext hS; exact Y.mv rfl) rfl $ Kt 1 rfl (by kernel_rfl) hS (fun w' hS => by have hM := hM0.ext hS; exact Y.mv rfl) rfl $ Kt 2 rfl (by kernel_rfl) hS (fun w' hS => by have hM := hM0.ext hS; exact Y.mv rfl) rfl $ Kt 3 rfl (by kernel_rfl) hS (fun w' hS => by have hM := hM0.ext hS; exact Y.mulN (a := y) (b := sz) rfl rfl (by omega)) rfl $ Ku 4 rfl (by kernel_rfl) hS (Y.idx1 (k := y * sz) rfl rfl ((hM0.ext hS).sl 1 rfl) rfl (by omega) U22 (by kernel_rfl)) (fun w' hS => by have hM := hM0.ext hS; exact Y.idx1 (k := y * sz) rfl rfl (hM.sl 1 rfl) rfl (by omega) U22 (by kernel_rfl)) rfl $ Kt 7 rfl (by kernel_rfl) hS (fun w' hS => by have hM := hM0.ext hS; exact Y.mv rfl) rfl $ Kt 8 rfl (by kernel_rfl) hS (fun w' hS => by have hM := hM0.ext hS; exact Y.mv rfl) rfl $ Kt 9 rfl (by kernel_rfl) hS (fun w' hS => by have hM := hM0.ext hS; exact Y.mv rfl) rfl $ Kt 10 rfl (by kernel_rfl) hS (fun w' hS => by have hM := hM0.ext hS; exact Y.mulN (a := y) (b := sz) rfl rfl (by omega)) rfl $ Kt 11 rfl (by kernel_rfl) hS (fun w' hS => by have hM := hM0.ext hS; exact Y.addN (a := y * sz) (b := 1) rfl rfl (by omega)) rfl ?_
  refine Kt 12 rfl (by kernel_rfl) hS (fun w' hS => by have hM := hM0.ext hS; exact Y.mv rfl) rfl $ Kt 13 rfl (by kernel_rfl) hS (fun w' hS => by have hM := hM0.ext hS; exact Y.mv rfl) rfl $ Kt 14 rfl (by kernel_rfl) hS (fun w' hS => by have hM := hM0.ext hS; exact Y.mulN (a := y) (b := sz) rfl rfl (by omega)) rfl $ Kt 15 rfl (by kernel_rfl) hS (fun w' hS => by have hM := hM0.ext hS; exact Y.mv rfl) rfl $ Kt 16 rfl (by kernel_rfl) hS (fun w' hS => by have hM := hM0.ext hS; exact Y.addN (a := y * sz) (b := sz) rfl rfl (by omega)) rfl ?_
  rw [← hm2]
  refine Ku 17 rfl (by kernel_rfl) hS (Y.slcP (y * sz + 1) ((y + 1) * sz) rfl (.inl rfl) (.inl rfl) ((hM0.ext hS).sl 1 rfl) U22 (by kernel_rfl) (by omega) (by omega)) (fun w' hS => by have hM := hM0.ext hS; exact Y.slcP (y * sz + 1) ((y + 1) * sz) rfl (.inl rfl) (.inl rfl) (hM.sl 1 rfl) U22 (by kernel_rfl) (by omega) (by omega)) rfl $ Kt 18 rfl (by kernel_rfl) hS (fun w' hS => by have hM := hM0.ext hS; exact Y.mv rfl) rfl $ H.only 5 rfl (by kernel_rfl) $ E.load rfl U5 rfl (RdL.cellA (l := out) (j := y * sz) ((hM0.ext hM.toExt).sl 1 rfl) rfl (by omega)) rfl ?_
  rw [u8c, at_get (show y * sz < out.length by omega)]
  have hS := hM.toExt
  refine H.back hS $ Ku 6 rfl (by kernel_rfl) hS (Y.conv rfl U5 U3 (IntWalk.i64_in _ (by omega))) (fun w' hS => by have hM := hM0.ext hS; exact Y.conv rfl U5 U3 (IntWalk.i64_in _ (by omega))) rfl $ H.only 19 rfl (by kernel_rfl) $ E.call rfl rfl (rUnfilter_ret ((at_ out (y * sz)) : Int) _ vq (cutL (y * sz + 1) ((y + 1) * sz) out) prior _ ((RdL.partV (l := out) (a := y * sz + 1) (b := (y + 1) * sz) (hM0.sl 1 rfl) (by omega) (by omega)).ext hM.toExt) ((hM0.sl 4 rfl).ext hM.toExt) (by omega)) ?_
  rintro _ w17 ⟨v123, rfl, m⟩
  have hM := hM.call m
  try dsimp only [Za, Zb, Zc, Zd, repl] at hM
  have hS := hM.toExt
  refine H.back hS $ Kt 20 rfl (by kernel_rfl) hS (fun w' hS => by have hM := hM0.ext hS; exact Y.mv rfl) rfl $ Kt 21 rfl (by kernel_rfl) hS (fun w' hS => by have hM := hM0.ext hS; exact Y.ext rfl rfl) rfl $ Kt 22 rfl (by kernel_rfl) hS (fun w' hS => by have hM := hM0.ext hS; exact Y.ext rfl rfl) rfl $ Kt 23 rfl (by kernel_rfl) hS (fun w' hS => by have hM := hM0.ext hS; exact Y.asg rfl) rfl $ Kt 24 rfl (by kernel_rfl) hS (fun w' hS => by have hM := hM0.ext hS; exact Y.asg rfl) rfl $ H.done (by kernel_rfl) ?_
  have hM := hM0.call hM
  refine X.next $ C.seq $ Kb $ Km rfl $ Kp rfl $ Ka $ C.cond' rfl (fun hC9 => ?_) (fun hC9 => ?_)
  ·
   have hE : 4 < (at_ out (y * sz)) := Decidable.byContradiction fun h => hC9 (by rw [apE, if_neg (by omega), if_neg (fun k => by rcases hpr with h2 | h2; exact k.1 h2; exact k.2 (by rw [h2, hcl]))])
   have hE2 : apE ((at_ out (y * sz)) : Int) (cutL (y * sz + 1) ((y + 1) * sz) out) prior = 37 := by rw [apE, if_pos (by omega)]
   rw [hE2]
   refine Kb $ E.buildC (cs := [_, _, _]) [.int .i64 0, .int .i64 0, .slice none 0 0] [] rfl rfl (by kernel_rfl) rfl $ Km rfl $ E.storeAM 0 hM rfl rfl rfl (by kernel_rfl) rfl (ones rfl $ ones rfl $ ones rfl $ ones_nil) ?_
   intro w19 hM
   try dsimp only [Za, Zb, Zc, Zd, repl] at hM
   refine Kc rfl $ C.ret $ X.retT $ X.retB $ X.retT $ X.retT $ X.retB $ X.retT $ retAT rfl rfl rfl U24 rfl (by exact hM.blk 0 rfl) (by kernel_rfl) ?_
   exact ⟨0, 0, nilS, [], 37, rfl, (hM.pick [] (by decide)).nil u8 5, .inr ⟨by decide, by rw [himg, rwk_f hR hE (by omega)], rfl, rfl, rfl⟩⟩
  have hE : apE ((at_ out (y * sz)) : Int) (cutL (y * sz + 1) ((y + 1) * sz) out) prior = 0 := Decidable.byContradiction hC9
  have hm5 : ¬ 4 < (at_ out (y * sz)) := fun h => by
   rw [apE, if_pos (by omega)] at hE; cases hE
  have hO2 : apO unf ((at_ out (y * sz)) : Int) (cutL (y * sz + 1) ((y + 1) * sz) out) prior = unf (at_ out (y * sz)) (cutL (y * sz + 1) ((y + 1) * sz) out) prior := by rw [apO, if_pos hE, Int.toNat_natCast]
  rw [hO2] at hM
  have hul := unf_len (at_ out (y * sz)) (cutL (y * sz + 1) ((y + 1) * sz) out) prior
  refine Kk $ C.cut1 [(2, _), (6, _), (7, _), (8, _), (13, _), (14, _), (16, _), (18, _), (19, _)] rfl (fun (vx2 : Value) => []) (fun (vx2 : Value) w' => M w (Nn) w' [Rg.blk b2 24 [i64 0, i64 0, nilS], Rg.sl u8 5 v81 out, Rg.blk b16 24 [i64 (wd : Int), i64 (ht : Int), vx2], Rg.sl u8 5 vx2 (pix ++ vls (unf (at_ out (y * sz)) (cutL (y * sz + 1) ((y + 1) * sz) out) prior) wd d), Rg.sl u8 5 v123 (unf (at_ out (y * sz)) (cutL (y * sz + 1) ((y + 1) * sz) out) prior)]) ?_ ?_
  ·
   refine C.heldX (Sh := fun w' => ∃ (vz : Value), M w (Nn) w' [Rg.blk b16 24 [i64 (wd : Int), i64 (ht : Int), vz]]) hM (by kernel_rfl) fun wh20 hM => ?_
   have hS : ∃ (vz : Value), M w (Nn) wh20 [Rg.blk b16 24 [i64 (wd : Int), i64 (ht : Int), vz]] := ⟨_, hM.pick [2] (by decide)⟩
   refine Ku 0 rfl (by kernel_rfl) hS (Y.fld (o := 2) (sz := 0) rfl U24 rfl rfl (by kernel_rfl)) (fun w' ⟨vz, hM⟩ => Y.fld (o := 2) (sz := 0) rfl U24 rfl rfl (by kernel_rfl)) rfl $ Kt 2 rfl (by kernel_rfl) hS (fun w' ⟨vz, hM⟩ => Y.mv rfl) rfl $ Kt 3 rfl (by kernel_rfl) hS (fun w' ⟨vz, hM⟩ => Y.mv rfl) rfl $ Kt 4 rfl (by kernel_rfl) hS (fun w' ⟨vz, hM⟩ => Y.mv rfl) rfl $ H.two 1 5 rfl rfl (by kernel_rfl) ?_ ?_
   ·
    refine E.load rfl U22 rfl (hM.bcell 2 rfl rfl) rfl ?_
    have hS : ∃ (vz : Value), M w (Nn) _ [Rg.blk b16 24 [i64 (wd : Int), i64 (ht : Int), vz]] := ⟨_, hM.pick [2] (by decide)⟩
    refine H.back hS $ H.only 5 rfl (by kernel_rfl) $ E.call rfl rfl (values35_ret v123 (unf (at_ out (y * sz)) (cutL (y * sz + 1) ((y + 1) * sz) out) prior) wd d _ (hM.sl 5 rfl) hd4 (by omega) (by rw [← hq]; omega)) ?_
    rintro v135 w19 m
    have hM := hM.call m
    try dsimp only [Za, Zb, Zc, Zd, repl] at hM
    have hS : ∃ (vz : Value), M w (Nn) _ [Rg.blk b16 24 [i64 (wd : Int), i64 (ht : Int), vz]] := ⟨_, hM.pick [2] (by decide)⟩
    refine H.back hS $ H.only 6 rfl (by kernel_rfl) $ E.appendM 3 hM rfl rfl rfl U22 elem_Tuint8 (hM.sl 6 rfl) (fun _ => rfl) (by rw [vls_len]; omega) (by rw [vls_len]; omega) rfl ?_
    intro v136 w22 hM
    try dsimp only [Za, Zb, Zc, Zd, repl] at hM
    have hS : ∃ (vz : Value), M w (Nn) _ [Rg.blk b16 24 [i64 (wd : Int), i64 (ht : Int), vz]] := ⟨_, hM.pick [2] (by decide)⟩
    refine H.back hS $ Ku 7 rfl (by kernel_rfl) hS (Y.fld (o := 2) (sz := 0) rfl U24 rfl rfl (by kernel_rfl)) (fun w' ⟨vz, hM⟩ => Y.fld (o := 2) (sz := 0) rfl U24 rfl rfl (by kernel_rfl)) rfl $ H.only 8 rfl (by kernel_rfl) $ E.storeM 2 hM rfl rfl rfl (by kernel_rfl) (hM.sl 3 rfl).one rfl ?_
    intro w23 hM
    try dsimp only [Za, Zb, Zc, Zd, repl] at hM
    have hS : ∃ (vz : Value), M w (Nn) _ [Rg.blk b16 24 [i64 (wd : Int), i64 (ht : Int), vz]] := ⟨_, hM.pick [2] (by decide)⟩
    refine H.back hS $ H.done (by kernel_rfl) $ X.join1 _ (Sub.nil _) rfl (hM.pick [0, 1, 2, 3, 5] (by decide))
   refine E.call rfl rfl (values35_ret v123 (unf (at_ out (y * sz)) (cutL (y * sz + 1) ((y + 1) * sz) out) prior) wd d _ (hM.sl 5 rfl) hd4 (by omega) (by rw [← hq]; omega)) ?_
   rintro v135 w19 m
   have hM := hM.call m
   try dsimp only [Za, Zb, Zc, Zd, repl] at hM
   have hS : ∃ (vz : Value), M w (Nn) _ [Rg.blk b16 24 [i64 (wd : Int), i64 (ht : Int), vz]] := ⟨_, hM.pick [2] (by decide)⟩
   refine H.back hS $ H.only 1 rfl (by kernel_rfl) $ E.load rfl U22 rfl (hM.bcell 2 rfl rfl) rfl ?_
   have hS : ∃ (vz : Value), M w (Nn) _ [Rg.blk b16 24 [i64 (wd : Int), i64 (ht : Int), vz]] := ⟨_, hM.pick [2] (by decide)⟩
   refine H.back hS $ H.only 6 rfl (by kernel_rfl) $ E.appendM 3 hM rfl rfl rfl U22 elem_Tuint8 (hM.sl 6 rfl) (fun _ => rfl) (by rw [vls_len]; omega) (by rw [vls_len]; omega) rfl ?_
   intro v136 w25 hM
   try dsimp only [Za, Zb, Zc, Zd, repl] at hM
   have hS : ∃ (vz : Value), M w (Nn) _ [Rg.blk b16 24 [i64 (wd : Int), i64 (ht : Int), vz]] := ⟨_, hM.pick [2] (by decide)⟩
   refine H.back hS $ Ku 7 rfl (by kernel_rfl) hS (Y.fld (o := 2) (sz := 0) rfl U24 rfl rfl (by kernel_rfl)) (fun w' ⟨vz, hM⟩ => Y.fld (o := 2) (sz := 0) rfl U24 rfl rfl (by kernel_rfl)) rfl $ H.only 8 rfl (by kernel_rfl) $ E.storeM 2 hM rfl rfl rfl (by kernel_rfl) (hM.sl 3 rfl).one rfl ?_
   intro w26 hM
   try dsimp only [Za, Zb, Zc, Zd, repl] at hM
   have hS : ∃ (vz : Value), M w (Nn) _ [Rg.blk b16 24 [i64 (wd : Int), i64 (ht : Int), vz]] := ⟨_, hM.pick [2] (by decide)⟩
   refine H.back hS $ H.done (by kernel_rfl) $ X.join1 _ (Sub.nil _) rfl (hM.pick [0, 1, 2, 3, 5] (by decide))
  rintro vx2 w27 hM
  refine C.region $ Km rfl $ Kn rfl $ E.nil $ X.outN $ X.next $ C.region $ Km rfl $ E.add rfl rfl (by omega) rfl $ Kn rfl $ E.nil $ X.again5 (y + 1) v123 vx2 _ _ (Sub.cons rfl $ S1 rfl) rfl ⟨hM, by omega, rwk_t hR hm5, by rw [List.length_append, vls_len, hpx, Nat.add_mul, Nat.one_mul], .inr (by rw [hul, hcl])⟩ (by omega)
 obtain rfl : y = ht := by omega
 rw [hR] at himg
 simp only at himg
 refine Kx $ Kb $ E.loadA (cs := [i64 (wd : Int), i64 (y : Int), vx]) rfl U24 rfl (by kernel_rfl) (hM.bat 2 rfl) rfl $ E.storeAM 0 hM rfl rfl rfl (by kernel_rfl) rfl (ones rfl $ ones rfl $ ones (hM.sl 3 rfl).one $ ones_nil) ?_
 intro w28 hM
 try dsimp only [Za, Zb, Zc, Zd, repl] at hM
 refine Kc rfl $ C.ret $ retAT rfl rfl rfl U24 rfl (by exact hM.blk 0 rfl) (by kernel_rfl) ?_
 exact ⟨_, _, vx, pix, 0, rfl, hM.pick [3] (by decide), .inl ⟨wd, y, rfl, rfl, rfl, himg⟩⟩
end Go.Proofs.YtajklleiifhipaaGreatDoor
