/- Texts of the claim, laid together: Pg8, Pg9, Pg13. -/
import Derived.Test.YtajklleiifhipaaGreatDoorV0
import Derived.Test.YtajklleiifhipaaGreatDoorV3
import Derived.Test.YtajklleiifhipaaGreatDoorV5
import Derived.Test.YtajklleiifhipaaGreatDoorV19
import Derived.Test.YtajklleiifhipaaGreatDoorV21
import Derived.Test.YtajklleiifhipaaGreatDoorV26
set_option linter.unusedSimpArgs false
set_option linter.unusedVariables false
namespace Go.Proofs.YtajklleiifhipaaGreatDoor
open Go.RowKit Sym
open Pg
theorem arranged2_ret (p : Value) (h0 : Hd) (hr : List Hd) (c : Ck) (r : List Ck) (w : World) (hc : Cks w p (h0 :: hr) (c :: r)) (h4 : ∀ x ∈ r, x.1.length = 4) (hb : (dtc r).length ≤ 100000000) (hrl : r.length ≤ 100000) :
  Ret Tryz.prog 27 #[p] w fun v w' => ∃ (vh vd : Value) (b : Bool) (out : List UInt8) (e : Int), v = .tuple #[vh, vd, .bool b, i64 e] ∧ M w Nn w' [Rg.sl u8 5 vd out] ∧ (((c.1 = tH ∧ c.2.length = 13 ∧ fmd 0 r = true) ∧ e = 0 ∧ vh = slv h0 ∧ out = dtc r ∧ b = anyD r) ∨ ((c.1 ≠ tH ∨ c.2.length ≠ 13 ∨ fmd 0 r = false) ∧ e = 9)) :=
 (arranged_ret p h0 hr c r w hc h4 hb hrl).mono fun v w' h => by
  rcases h with ⟨h1, vd, h2, h3⟩ | ⟨h1, h2, h3⟩
  · exact ⟨_, vd, _, _, 0, h2, h3, .inl ⟨h1, rfl, rfl, rfl, rfl⟩⟩
  exact ⟨_, nilS, _, [], 9, h2, (M.ofExt h3).nil u8 5, .inr ⟨h1, rfl⟩⟩
theorem Cks.hd {w : World} {p : Value} {h0 : Hd} {hr : List Hd} {c : Ck} {r : List Ck} (h : Cks w p (h0 :: hr) (c :: r)) : RdL u8 w (slv h0) c.2 := h.data (i := 0) (by simp)
def RdiV (r : Except Int (Nat × Nat × List UInt8)) (W H : Int) (pix : List UInt8) (e : Int) : Prop := (∃ a b : Nat, e = 0 ∧ W = a ∧ H = b ∧ r = .ok (a, b, pix)) ∨ (e ≠ 0 ∧ r = .error e ∧ W = 0 ∧ H = 0 ∧ pix = [])
namespace Pg
theorem rdi_e {l : List UInt8} {e : Int} (h : rdf l = .error e) : rdi l = .error e := by rw [rdi, h]
theorem rdi_f {l : List UInt8} {c : Ck} {r : List Ck} (h : rdf l = .ok (c :: r)) (h2 : c.1 ≠ tH ∨ c.2.length ≠ 13 ∨ fmd 0 r = false) : rdi l = .error 9 := by
 rw [rdi, h]
 simp only
 rw [if_pos h2]
theorem rdi_i {l : List UInt8} {c : Ck} {r : List Ck} (h : rdf l = .ok (c :: r)) (h2 : c.1 = tH ∧ c.2.length = 13 ∧ fmd 0 r = true) : rdi l = img c.2 (dtc r) (anyD r) := by
 rw [rdi, h]
 simp only
 rw [if_neg]
 rintro (h3 | h3 | h3)
 · exact h3 h2.1
 · exact h3 h2.2.1
 rw [h2.2.2] at h3; cases h3
theorem unf_len (m : Nat) (row prior : List UInt8) : (unf m row prior).length = row.length := unl_len _ _ _ _
theorem dtc_le (l : List Ck) : (dtc l).length ≤ csz l := by
 induction l with
 | nil => simp [dtc]
 | cons c l ih =>
  rw [dtc, csz_cons]
  split
  · rw [List.length_append]; omega
  omega
theorem rwk_t {data prior pix : List UInt8} {sz w d y : Nat} (h : rwk data sz w d y = .ok (prior, pix)) (hm : ¬ 4 < at_ data (y * sz)) : rwk data sz w d (y + 1) = .ok (unf (at_ data (y * sz)) (cutL (y * sz + 1) ((y + 1) * sz) data) prior, pix ++ vls (unf (at_ data (y * sz)) (cutL (y * sz + 1) ((y + 1) * sz) data) prior) w d) := by
 rw [rwk, h]
 simp only
 rw [if_neg hm]
theorem rwk_f {data prior pix : List UInt8} {sz w d y n : Nat} (h : rwk data sz w d y = .ok (prior, pix)) (hm : 4 < at_ data (y * sz)) (hn : y + 1 ≤ n) : rwk data sz w d n = .error 37 := by
 refine rwk_err (y := y + 1) ?_ n hn
 rw [rwk, h]
 simp only
 rw [if_pos hm]
end Pg
set_option maxHeartbeats 8000000 in
set_option maxRecDepth 4000 in
theorem Read_ret (p : Value) (l : List UInt8) (w : World) (hl : RdL u8 w p l) (hO : Ord w) :
  Ret Tryz.prog 8 #[p] w fun v w' => ∃ (W H : Int) (vp : Value) (pix : List UInt8) (e : Int), v = .tuple #[imv W H vp, i64 e] ∧ M w Nn w' [Rg.sl u8 5 vp pix] ∧ RdiV (rdi l) W H pix e := by
 have hM := M.start w
 refine enter Tryz.func8 rfl (by kernel_rfl) Tryz.ntmps8 rfl $ Kb $ E.allocM (z := .agg #[.int .i64 0, .int .i64 0, .slice none 0 0]) (cs := [.int .i64 0, .int .i64 0, .slice none 0 0]) hM (by kernel_rfl) rfl rfl ?_
 intro b2 w0 hM
 refine Kd rfl $ Km rfl $ E.call rfl rfl (Chunks_ret p l _ (hM.arg0 hl)) ?_
 rintro _ w1 ⟨vo, hs, cs, e, rfl, m, hv⟩
 have hM := hM.call m
 refine Km rfl $ E.ext rfl rfl rfl $ E.ext rfl rfl rfl $ Kn rfl $ Kc rfl $ C.seq $ Kb $ Km rfl $ Kp rfl $ Ka $ C.cond' rfl (fun hC0 => ?_) (fun hC0 => ?_)
 ·
  obtain ⟨hne, hrd, _⟩ := hv.resolve_left (fun h => hC0 h.1)
  refine Kb $ E.buildC (cs := [_, _, _]) [.int .i64 0, .int .i64 0, .slice none 0 0] [] rfl rfl (by kernel_rfl) rfl $ Km rfl $ E.storeAM 0 hM rfl rfl rfl (by kernel_rfl) rfl (ones rfl $ ones rfl $ ones rfl $ ones_nil) ?_
  intro w2 hM
  refine Kc rfl $ C.ret $ X.retT $ retAT rfl rfl rfl U24 rfl (by exact hM.blk 0 rfl) (by kernel_rfl) ?_
  exact ⟨0, 0, nilS, [], e, rfl, (hM.pick [] (by decide)).nil u8 5, .inr ⟨hne, by rw [rdi_e hrd], rfl, rfl, rfl⟩⟩
 obtain ⟨rfl, hrd⟩ := hv.resolve_right (fun h => hC0 h.1)
 obtain ⟨hg, hl1, hl2, hl3⟩ := rdf_ok hrd
 have hg4 := gd_let hg
 have hlen : 8 + csz cs ≤ 4194304 := by
  have := congrArg List.length hl2
  rw [List.length_append, cks_len (fun x hx => (hg4 x hx).1), show sig.length = 8 from rfl] at this; omega
 obtain ⟨c, r, rfl⟩ : ∃ c r, cs = c :: r := by
  cases cs with
  | nil => exact hg.elim
  | cons c r => exact ⟨c, r, rfl⟩
 obtain ⟨h0, hr, rfl⟩ : ∃ h0 hr, hs = h0 :: hr := by
  have := (hM.cks 1 2 rfl rfl).len
  cases hs with
  | nil => simp at this
  | cons h0 hr => exact ⟨h0, hr, rfl⟩
 have hdl := dtc_le r
 rw [csz_cons] at hlen
 rw [List.length_cons] at hl1
 refine Kk $ Kb $ Km rfl $ E.call rfl rfl (arranged2_ret vo h0 hr c r _ (hM.cks 1 2 rfl rfl) (fun x hx => (hg4 x (by simp [hx])).1) (by omega) (by omega)) ?_
 rintro _ w3 ⟨vh, vd, b, out1, e1, rfl, m, ha⟩
 have hM := hM.call m
 refine Km rfl $ E.ext rfl rfl rfl $ E.ext rfl rfl rfl $ E.ext rfl rfl rfl $ E.ext rfl rfl rfl $ Kn rfl $ Kn rfl $ Kn rfl $ Kc rfl $ C.seq $ Kb $ Km rfl $ Kp rfl $ Ka $ C.cond' rfl (fun hC1 => ?_) (fun hC1 => ?_)
 ·
  obtain ⟨hbad, rfl⟩ := ha.resolve_left (fun h => hC1 h.2.1)
  refine Kb $ E.buildC (cs := [_, _, _]) [.int .i64 0, .int .i64 0, .slice none 0 0] [] rfl rfl (by kernel_rfl) rfl $ Km rfl $ E.storeAM 0 hM rfl rfl rfl (by kernel_rfl) rfl (ones rfl $ ones rfl $ ones rfl $ ones_nil) ?_
  intro w4 hM
  refine Kc rfl $ C.ret $ X.retT $ retAT rfl rfl rfl U24 rfl (by exact hM.blk 0 rfl) (by kernel_rfl) ?_
  exact ⟨0, 0, nilS, [], 9, rfl, (hM.pick [] (by decide)).nil u8 5, .inr ⟨by decide, by rw [rdi_f hrd hbad], rfl, rfl, rfl⟩⟩
 obtain ⟨hgood, rfl, rfl, rfl, rfl⟩ := ha.resolve_right (fun h => hC1 (by rw [h.2]; decide))
 have hc13 := hgood.2.1
 have himg := rdi_i hrd hgood
 obtain ⟨wd, hwd⟩ : ∃ n, n = Jn.dec4 c.2 := ⟨_, rfl⟩
 obtain ⟨ht, hht⟩ : ∃ n, n = Jn.dec4 (c.2.drop 4) := ⟨_, rfl⟩
 obtain ⟨d, hd⟩ : ∃ n, n = at_ c.2 8 := ⟨_, rfl⟩
 rw [img, ← hwd, ← hht, ← hd] at himg
 have hwl := Jn.dec4_lt c.2
 rw [← hwd] at hwl
 have hhl := Jn.dec4_lt (c.2.drop 4)
 rw [← hht] at hhl
 have hdl2 := at_le c.2 8
 rw [← hd] at hdl2
 refine Kk $ C.seq $ C.drawn (by kernel_rfl) (by kernel_rfl) $ Q.mv rfl rfl $ Q.call (v := i64 (wd : Int)) rfl rfl (fun w' hw' => by rw [hwd]; exact gnumber_ret _ _ w' (((hM.cks 1 2 rfl rfl).hd).ext hw') (by show 4 ≤ c.2.length; omega)) $ Q.mv rfl rfl $ Q.slcP (k' := .i64) 4 c.2.length rfl (.inl rfl) (.inr ⟨rfl, rfl⟩) ((hM.cks 1 2 rfl rfl).hd) U22 (by kernel_rfl) (by omega) (Nat.le_refl _) rfl ?_
 have r41 := RdL.partV (l := c.2) ((hM.cks 1 2 rfl rfl).hd) (a := 4) (b := c.2.length) (by omega) (by omega)
 rw [cut_all] at r41
 refine Q.call (v := i64 (ht : Int)) rfl rfl (fun w' hw' => by rw [hht]; exact gnumber_ret _ _ w' (r41.ext hw') (by rw [List.length_drop]; omega)) $ Q.mv rfl rfl $ Q.idx1 (k := 8) rfl rfl (((hM.cks 1 2 rfl rfl).hd)) rfl (by omega) U22 (by kernel_rfl) rfl $ Q.load rfl U5 rfl ((((hM.cks 1 2 rfl rfl).hd)).cellA rfl (by omega)) rfl ?_
 rw [u8c, at_get (l := c.2) (i := 8) (by omega), ← hd]
 refine Q.conv rfl U5 U3 (IntWalk.i64_in _ (by omega)) rfl $ Q.asg rfl rfl $ Q.asg rfl rfl $ Q.asg rfl rfl $ Q.nil $ fun w5 hx5 => ?_
 have hM := hM.ext hx5
 refine X.next $ C.seq $ C.chainE [(2, _), (6, _), (7, _), (8, _), (9, _), (10, _), (11, _)] rfl [(66, .bool (decide (wd < 1 ∨ 4096 < wd ∨ ht < 1 ∨ 4096 < ht ∨ 4194304 < wd * ht)))] ?_ ?_
 ·
  refine C.region $ Km rfl $ Kp rfl $ Km rfl $ E.split 49 rfl (fun g49 => ?_) (fun g49 => ?_)
  ·
   try simp only [Ya, Yb, Yc, Yd, Ye, Yf] at g49
   refine Kq rfl $ Kq rfl $ Kr rfl $ Km rfl $ Kq rfl $ Kq rfl $ Kr rfl $ Km rfl $ Kq rfl $ Kq rfl $ Kr rfl $ Km rfl $ Kq rfl $ Kq rfl $ Kq rfl $ Kq rfl $ Kr rfl $ E.nil $ X.join0 (Sub.cons (look_eq rfl (congrArg Value.bool (by exact (decide_eq_true (p := wd < 1 ∨ 4096 < wd ∨ ht < 1 ∨ 4096 < ht ∨ 4194304 < wd * ht) (by omega)).symm))) $ Sub.nil _) rfl rfl
  try simp only [Ya, Yb, Yc, Yd, Ye, Yf] at g49
  refine Ko rfl $ Km rfl $ Ko rfl $ Kp rfl $ Kr rfl $ Km rfl $ E.split 53 rfl (fun g53 => ?_) (fun g53 => ?_)
  ·
   try simp only [Ya, Yb, Yc, Yd, Ye, Yf] at g53
   refine Kq rfl $ Kq rfl $ Kr rfl $ Km rfl $ Kq rfl $ Kq rfl $ Kr rfl $ Km rfl $ Kq rfl $ Kq rfl $ Kq rfl $ Kq rfl $ Kr rfl $ E.nil $ X.join0 (Sub.cons (look_eq rfl (congrArg Value.bool (by exact (decide_eq_true (p := wd < 1 ∨ 4096 < wd ∨ ht < 1 ∨ 4096 < ht ∨ 4194304 < wd * ht) (by omega)).symm))) $ Sub.nil _) rfl rfl
  try simp only [Ya, Yb, Yc, Yd, Ye, Yf] at g53
  refine Ko rfl $ Km rfl $ Ko rfl $ Kp rfl $ Kr rfl $ Km rfl $ E.split 57 rfl (fun g57 => ?_) (fun g57 => ?_)
  ·
   try simp only [Ya, Yb, Yc, Yd, Ye, Yf] at g57
   refine Kq rfl $ Kq rfl $ Kr rfl $ Km rfl $ Kq rfl $ Kq rfl $ Kq rfl $ Kq rfl $ Kr rfl $ E.nil $ X.join0 (Sub.cons (look_eq rfl (congrArg Value.bool (by exact (decide_eq_true (p := wd < 1 ∨ 4096 < wd ∨ ht < 1 ∨ 4096 < ht ∨ 4194304 < wd * ht) (by omega)).symm))) $ Sub.nil _) rfl rfl
  try simp only [Ya, Yb, Yc, Yd, Ye, Yf] at g57
  refine Ko rfl $ Km rfl $ Ko rfl $ Kp rfl $ Kr rfl $ Km rfl $ E.split 61 rfl (fun g61 => ?_) (fun g61 => ?_)
  ·
   try simp only [Ya, Yb, Yc, Yd, Ye, Yf] at g61
   refine Kq rfl $ Kq rfl $ Kq rfl $ Kq rfl $ Kr rfl $ E.nil $ X.join0 (Sub.cons (look_eq rfl (congrArg Value.bool (by exact (decide_eq_true (p := wd < 1 ∨ 4096 < wd ∨ ht < 1 ∨ 4096 < ht ∨ 4194304 < wd * ht) (by omega)).symm))) $ Sub.nil _) rfl rfl
  try simp only [Ya, Yb, Yc, Yd, Ye, Yf] at g61
  have hwh : wd * ht ≤ 4096 * 4096 := Nat.mul_le_mul (by omega) (by omega)
  refine Ko rfl $ Km rfl $ Ko rfl $ Km rfl $ Ko rfl $ E.mulN (a := wd) (b := ht) rfl rfl (by omega) rfl $ Ko rfl $ Kp rfl $ Kr rfl $ E.nil $ X.join0 (Sub.cons (look_eq rfl (congrArg Value.bool (by exact decide_eq_decide.2 ⟨fun h => by omega, fun h => by omega⟩))) $ Sub.nil _) rfl rfl
 refine C.cond' rfl (fun hC2 => ?_) (fun hC2 => ?_)
 ·
  refine Kb $ E.buildC (cs := [_, _, _]) [.int .i64 0, .int .i64 0, .slice none 0 0] [] rfl rfl (by kernel_rfl) rfl $ E.storeAM 0 hM rfl rfl rfl (by kernel_rfl) rfl (ones rfl $ ones rfl $ ones rfl $ ones_nil) ?_
  intro w6 hM
  refine Kc rfl $ C.ret $ X.retT $ retAT rfl rfl rfl U24 rfl (by exact hM.blk 0 rfl) (by kernel_rfl) ?_
  exact ⟨0, 0, nilS, [], 23, rfl, (hM.pick [] (by decide)).nil u8 5, .inr ⟨by decide, by rw [himg, if_pos hC2], rfl, rfl, rfl⟩⟩
 refine Kk $ C.seq $ C.chainE [(2, _), (6, _), (7, _), (8, _), (9, _), (10, _), (11, _)] rfl [(87, .bool (decide ((d ≠ 1 ∧ d ≠ 2 ∧ d ≠ 4 ∧ d ≠ 8) ∨ at_ c.2 9 ≠ 0)))] ?_ ?_
 ·
  refine C.region $ Km rfl $ Kp rfl $ Km rfl $ E.split 70 rfl (fun g70 => ?_) (fun g70 => ?_)
  ·
   try simp only [Ya, Yb, Yc, Yd, Ye, Yf] at g70
   refine Ko rfl $ Km rfl $ Ko rfl $ Kp rfl $ Kr rfl $ Km rfl $ E.split 74 rfl (fun g74 => ?_) (fun g74 => ?_)
   ·
    try simp only [Ya, Yb, Yc, Yd, Ye, Yf] at g74
    refine Ko rfl $ Km rfl $ Ko rfl $ Kp rfl $ Kr rfl $ Km rfl $ E.split 78 rfl (fun g78 => ?_) (fun g78 => ?_)
    ·
     try simp only [Ya, Yb, Yc, Yd, Ye, Yf] at g78
     refine Ko rfl $ Km rfl $ Ko rfl $ Kp rfl $ Kr rfl $ Km rfl $ E.split 82 rfl (fun g82 => ?_) (fun g82 => ?_)
     ·
      try simp only [Ya, Yb, Yc, Yd, Ye, Yf] at g82
      refine Kq rfl $ Kq rfl $ Kq rfl $ Kq rfl $ Kr rfl $ E.nil $ X.join0 (Sub.cons (look_eq rfl (congrArg Value.bool (by exact (decide_eq_true (p := (d ≠ 1 ∧ d ≠ 2 ∧ d ≠ 4 ∧ d ≠ 8) ∨ at_ c.2 9 ≠ 0) (by omega)).symm))) $ Sub.nil _) rfl rfl
     try simp only [Ya, Yb, Yc, Yd, Ye, Yf] at g82
     refine Ko rfl $ Km rfl $ Ko rfl $ E.idx1 (k := 9) rfl rfl (((hM.cks 1 2 rfl rfl).hd)) rfl (by omega) U22 (by kernel_rfl) rfl $ Ko rfl $ E.load rfl U5 rfl ((((hM.cks 1 2 rfl rfl).hd)).cellA rfl (by omega)) rfl ?_
     rw [u8c, at_get (l := c.2) (i := 9) (by omega)]
     refine Ko rfl $ Kp rfl $ Kr rfl $ E.nil $ X.join0 (Sub.cons (look_eq rfl (congrArg Value.bool (by exact decide_eq_decide.2 ⟨fun h => by omega, fun h => by omega⟩))) $ Sub.nil _) rfl rfl
    try simp only [Ya, Yb, Yc, Yd, Ye, Yf] at g78
    refine Kq rfl $ Kq rfl $ Kr rfl $ Km rfl $ Ko rfl $ Km rfl $ Ko rfl $ E.idx1 (k := 9) rfl rfl (((hM.cks 1 2 rfl rfl).hd)) rfl (by omega) U22 (by kernel_rfl) rfl $ Ko rfl $ E.load rfl U5 rfl ((((hM.cks 1 2 rfl rfl).hd)).cellA rfl (by omega)) rfl ?_
    rw [u8c, at_get (l := c.2) (i := 9) (by omega)]
    refine Ko rfl $ Kp rfl $ Kr rfl $ E.nil $ X.join0 (Sub.cons (look_eq rfl (congrArg Value.bool (by exact decide_eq_decide.2 ⟨fun h => by omega, fun h => by omega⟩))) $ Sub.nil _) rfl rfl
   try simp only [Ya, Yb, Yc, Yd, Ye, Yf] at g74
   refine Kq rfl $ Kq rfl $ Kr rfl $ Km rfl $ Kq rfl $ Kq rfl $ Kr rfl $ Km rfl $ Ko rfl $ Km rfl $ Ko rfl $ E.idx1 (k := 9) rfl rfl (((hM.cks 1 2 rfl rfl).hd)) rfl (by omega) U22 (by kernel_rfl) rfl $ Ko rfl $ E.load rfl U5 rfl ((((hM.cks 1 2 rfl rfl).hd)).cellA rfl (by omega)) rfl ?_
   rw [u8c, at_get (l := c.2) (i := 9) (by omega)]
   refine Ko rfl $ Kp rfl $ Kr rfl $ E.nil $ X.join0 (Sub.cons (look_eq rfl (congrArg Value.bool (by exact decide_eq_decide.2 ⟨fun h => by omega, fun h => by omega⟩))) $ Sub.nil _) rfl rfl
  try simp only [Ya, Yb, Yc, Yd, Ye, Yf] at g70
  refine Kq rfl $ Kq rfl $ Kr rfl $ Km rfl $ Kq rfl $ Kq rfl $ Kr rfl $ Km rfl $ Kq rfl $ Kq rfl $ Kr rfl $ Km rfl $ Ko rfl $ Km rfl $ Ko rfl $ E.idx1 (k := 9) rfl rfl (((hM.cks 1 2 rfl rfl).hd)) rfl (by omega) U22 (by kernel_rfl) rfl $ Ko rfl $ E.load rfl U5 rfl ((((hM.cks 1 2 rfl rfl).hd)).cellA rfl (by omega)) rfl ?_
  rw [u8c, at_get (l := c.2) (i := 9) (by omega)]
  refine Ko rfl $ Kp rfl $ Kr rfl $ E.nil $ X.join0 (Sub.cons (look_eq rfl (congrArg Value.bool (by exact decide_eq_decide.2 ⟨fun h => by omega, fun h => by omega⟩))) $ Sub.nil _) rfl rfl
 refine C.cond' rfl (fun hC3 => ?_) (fun hC3 => ?_)
 ·
  refine Kb $ E.buildC (cs := [_, _, _]) [.int .i64 0, .int .i64 0, .slice none 0 0] [] rfl rfl (by kernel_rfl) rfl $ E.storeAM 0 hM rfl rfl rfl (by kernel_rfl) rfl (ones rfl $ ones rfl $ ones rfl $ ones_nil) ?_
  intro w7 hM
  refine Kc rfl $ C.ret $ X.retT $ retAT rfl rfl rfl U24 rfl (by exact hM.blk 0 rfl) (by kernel_rfl) ?_
  exact ⟨0, 0, nilS, [], 9, rfl, (hM.pick [] (by decide)).nil u8 5, .inr ⟨by decide, by rw [himg, if_neg hC2, if_pos hC3], rfl, rfl, rfl⟩⟩
 refine Kk $ C.seq $ C.chainE [(2, _), (7, _), (8, _), (9, _), (10, _), (11, _)] rfl [(104, .bool (decide (at_ c.2 10 ≠ 0 ∨ at_ c.2 11 ≠ 0 ∨ at_ c.2 12 ≠ 0)))] ?_ ?_
 ·
  refine C.region $ Km rfl $ E.get (k := 10) rfl rfl ((hM.cks 1 2 rfl rfl).hd) rfl (by show 10 < c.2.length; omega) U22 (by kernel_rfl) U5 rfl rfl rfl ?_
  rw [u8c, at_get (l := c.2) (i := 10) (by omega)]
  refine Kp rfl $ Km rfl $ E.split 93 rfl (fun g93 => ?_) (fun g93 => ?_)
  ·
   try simp only [Ya, Yb, Yc, Yd, Ye, Yf] at g93
   refine Kq rfl $ Kq rfl $ Kq rfl $ Kq rfl $ Kr rfl $ Km rfl $ Kq rfl $ Kq rfl $ Kq rfl $ Kq rfl $ Kr rfl $ E.nil $ X.join0 (Sub.cons (look_eq rfl (congrArg Value.bool (by exact (decide_eq_true (p := at_ c.2 10 ≠ 0 ∨ at_ c.2 11 ≠ 0 ∨ at_ c.2 12 ≠ 0) (by omega)).symm))) $ Sub.nil _) rfl rfl
  try simp only [Ya, Yb, Yc, Yd, Ye, Yf] at g93
  refine Ko rfl $ Km rfl $ Ko rfl $ E.idx1 (k := 11) rfl rfl (((hM.cks 1 2 rfl rfl).hd)) rfl (by omega) U22 (by kernel_rfl) rfl $ Ko rfl $ E.load rfl U5 rfl ((((hM.cks 1 2 rfl rfl).hd)).cellA rfl (by omega)) rfl ?_
  rw [u8c, at_get (l := c.2) (i := 11) (by omega)]
  refine Ko rfl $ Kp rfl $ Kr rfl $ Km rfl $ E.split 99 rfl (fun g99 => ?_) (fun g99 => ?_)
  ·
   try simp only [Ya, Yb, Yc, Yd, Ye, Yf] at g99
   refine Kq rfl $ Kq rfl $ Kq rfl $ Kq rfl $ Kr rfl $ E.nil $ X.join0 (Sub.cons (look_eq rfl (congrArg Value.bool (by exact (decide_eq_true (p := at_ c.2 10 ≠ 0 ∨ at_ c.2 11 ≠ 0 ∨ at_ c.2 12 ≠ 0) (by omega)).symm))) $ Sub.nil _) rfl rfl
  try simp only [Ya, Yb, Yc, Yd, Ye, Yf] at g99
  refine Ko rfl $ Km rfl $ Ko rfl $ E.idx1 (k := 12) rfl rfl (((hM.cks 1 2 rfl rfl).hd)) rfl (by omega) U22 (by kernel_rfl) rfl $ Ko rfl $ E.load rfl U5 rfl ((((hM.cks 1 2 rfl rfl).hd)).cellA rfl (by omega)) rfl ?_
  rw [u8c, at_get (l := c.2) (i := 12) (by omega)]
  refine Ko rfl $ Kp rfl $ Kr rfl $ E.nil $ X.join0 (Sub.cons (look_eq rfl (congrArg Value.bool (by exact decide_eq_decide.2 ⟨fun h => by omega, fun h => by omega⟩))) $ Sub.nil _) rfl rfl
 refine C.cond' rfl (fun hC4 => ?_) (fun hC4 => ?_)
 ·
  refine Kb $ E.buildC (cs := [_, _, _]) [.int .i64 0, .int .i64 0, .slice none 0 0] [] rfl rfl (by kernel_rfl) rfl $ E.storeAM 0 hM rfl rfl rfl (by kernel_rfl) rfl (ones rfl $ ones rfl $ ones rfl $ ones_nil) ?_
  intro w8 hM
  refine Kc rfl $ C.ret $ X.retT $ retAT rfl rfl rfl U24 rfl (by exact hM.blk 0 rfl) (by kernel_rfl) ?_
  exact ⟨0, 0, nilS, [], 37, rfl, (hM.pick [] (by decide)).nil u8 5, .inr ⟨by decide, by rw [himg, if_neg hC2, if_neg hC3, if_pos hC4], rfl, rfl, rfl⟩⟩
 refine Kk $ C.seq $ Kb $ Km rfl $ E.not rfl rfl $ Ka $ C.cond rfl (fun hC5 => ?_) (fun hC5 => ?_)
 ·
  have hany : anyD r = false := by simpa using hC5
  refine Kb $ E.buildC (cs := [_, _, _]) [.int .i64 0, .int .i64 0, .slice none 0 0] [] rfl rfl (by kernel_rfl) rfl $ E.storeAM 0 hM rfl rfl rfl (by kernel_rfl) rfl (ones rfl $ ones rfl $ ones rfl $ ones_nil) ?_
  intro w9 hM
  refine Kc rfl $ C.ret $ X.retT $ retAT rfl rfl rfl U24 rfl (by exact hM.blk 0 rfl) (by kernel_rfl) ?_
  exact ⟨0, 0, nilS, [], 33, rfl, (hM.pick [] (by decide)).nil u8 5, .inr ⟨by decide, by rw [himg, if_neg hC2, if_neg hC3, if_neg hC4, if_pos hany], rfl, rfl, rfl⟩⟩
 have hany : ¬ anyD r = false := by simpa using hC5
 rw [if_neg hC2, if_neg hC3, if_neg hC4, if_neg hany] at himg
 have hd4 : d = 1 ∨ d = 2 ∨ d = 4 ∨ d = 8 := by omega
 obtain ⟨q, hq⟩ : ∃ q, q = wd * d := ⟨_, rfl⟩
 have hq2 : wd * d ≤ 4096 * 8 := Nat.mul_le_mul (by omega) (by omega)
 obtain ⟨sz, hsz⟩ : ∃ s, s = wid wd d := ⟨_, rfl⟩
 have hsz2 : sz = 1 + (q + 7) / 8 := by rw [hsz, hq]; rfl
 rw [← hsz] at himg
 have hhs : ht * sz ≤ 4096 * 4097 := Nat.mul_le_mul (by omega) (by omega)
 have hwh : wd * ht ≤ 4096 * 4096 := Nat.mul_le_mul (by omega) (by omega)
 refine Kk $ Kb $ Kf rfl $ E.mulN (a := wd) (b := d) rfl rfl (by omega) rfl ?_
 rw [← hq]
 refine E.addN (a := q) (b := 7) rfl rfl (by omega) rfl $ E.quo (c := ((q + 7) / 8 : Nat)) rfl rfl (by omega) ((IntWalk.i64_quo _ _ (by omega)).trans (by omega)) rfl $ E.addN (a := 1) (b := (q + 7) / 8) rfl rfl (by omega) rfl ?_
 rw [← hsz2]
 refine Kd rfl $ Kf rfl $ Km rfl $ E.mulN (a := ht) (b := sz) rfl rfl (by omega) rfl $ E.call rfl rfl (Unwrap_ret vd (dtc r) ((ht * sz : Nat) : Int) _ (hM.sl 3 rfl) (hM.ord0 hO)) ?_
 rintro _ w10 ⟨v120, out, e2, rfl, m, hu⟩
 have hM := hM.call m
 refine Km rfl $ E.ext rfl rfl rfl $ E.ext rfl rfl rfl $ Kn rfl $ Kc rfl $ C.seq $ Kb $ Km rfl $ Kp rfl $ Ka $ C.cond' rfl (fun hC6 => ?_) (fun hC6 => ?_)
 ·
  obtain ⟨hne, hu2, _⟩ := hu.resolve_left (fun h => hC6 h.1)
  refine Kb $ E.buildC (cs := [_, _, _]) [.int .i64 0, .int .i64 0, .slice none 0 0] [] rfl rfl (by kernel_rfl) rfl $ Km rfl $ E.storeAM 0 hM rfl rfl rfl (by kernel_rfl) rfl (ones rfl $ ones rfl $ ones rfl $ ones_nil) ?_
  intro w11 hM
  refine Kc rfl $ C.ret $ X.retT $ retAT rfl rfl rfl U24 rfl (by exact hM.blk 0 rfl) (by kernel_rfl) ?_
  exact ⟨0, 0, nilS, [], e2, rfl, (hM.pick [] (by decide)).nil u8 5, .inr ⟨hne, by rw [himg, hu2], rfl, rfl, rfl⟩⟩
 obtain ⟨_, hu2⟩ := hu.resolve_right (fun h => hC6 h.1)
 rw [hu2] at himg
 simp only at himg
 refine Kk $ C.seq $ Kb $ Km rfl $ E.lenv rfl (Rd.shape (hM.sl 4 rfl)) U22 rfl $ Kf rfl $ E.mulN (a := ht) (b := sz) rfl rfl (by omega) rfl $ Kp rfl $ Ka $ C.cond' rfl (fun hC7 => ?_) (fun hC7 => ?_)
 ·
  refine Kb $ E.buildC (cs := [_, _, _]) [.int .i64 0, .int .i64 0, .slice none 0 0] [] rfl rfl (by kernel_rfl) rfl $ E.storeAM 0 hM rfl rfl rfl (by kernel_rfl) rfl (ones rfl $ ones rfl $ ones rfl $ ones_nil) ?_
  intro w12 hM
  refine Kc rfl $ C.ret $ X.retT $ retAT rfl rfl rfl U24 rfl (by exact hM.blk 0 rfl) (by kernel_rfl) ?_
  exact ⟨0, 0, nilS, [], 10, rfl, (hM.pick [] (by decide)).nil u8 5, .inr ⟨by decide, by rw [himg, if_pos (by omega)], rfl, rfl, rfl⟩⟩
 rw [if_neg (show ¬ out.length < ht * sz by omega)] at himg
 refine Kk $ Kb $ Kf rfl $ Kf rfl $ E.mulN (a := wd) (b := ht) rfl rfl (by omega) rfl $ E.make0M (by_ := 1) (enc := u8) 0 hM rfl (n := wd * ht) rfl U22 (by kernel_rfl) rfl (by omega) (by omega) rfl ?_
 intro v139 w13 hM
 obtain ⟨x139, rfl⟩ := own_head (hM.own 5 rfl)
 refine E.buildC (cs := [_, _, _]) [.int .i64 0, .int .i64 0, .slice none 0 0] [0, 1, 2] rfl rfl (by kernel_rfl) rfl $ E.allocM (z := .agg #[.int .i64 0, .int .i64 0, .slice none 0 0]) (cs := [.int .i64 0, .int .i64 0, .slice none 0 0]) hM (by kernel_rfl) rfl rfl ?_
 intro b13 w14 hM
 refine E.storeAM 6 hM rfl rfl rfl (by kernel_rfl) rfl (ones rfl $ ones rfl $ ones (hM.sl 5 rfl).one $ ones_nil) ?_
 intro w15 hM
 refine Ke $ Kc rfl $ C.seq $ Kb $ Kf rfl $ Ka $ C.block $ ?_
 have hM := (hM.pick [0, 4, 6, 5] (by decide)).nil u8 5
 try dsimp only [List.nil_append, List.cons_append] at hM
 refine C.loop5 [(2, _), (7, _), (9, _), (11, _), (12, _), (13, _), (141, _)] rfl (fun (y : Nat) (vq : Value) (vx : Value) (prior : (List UInt8)) (pix : (List UInt8)) => [(14, vq), (142, i64 y)]) (fun (y : Nat) (vq : Value) (vx : Value) (prior : (List UInt8)) (pix : (List UInt8)) w' => M w (Nn) w' [Rg.blk b2 24 [i64 0, i64 0, nilS], Rg.sl u8 5 v120 out, Rg.blk b13 24 [i64 (wd : Int), i64 (ht : Int), vx], Rg.sl u8 5 vx pix, Rg.sl u8 5 vq prior] ∧ y ≤ ht ∧ rwk out sz wd d y = .ok (prior, pix) ∧ pix.length = y * wd ∧ (prior = [] ∨ prior.length = sz - 1)) (fun (y : Nat) (vq : Value) (vx : Value) (prior : (List UInt8)) (pix : (List UInt8)) => ht - y) 0 nilS (slv x139) [] [] ?_ ?_ ?_
 · exact Sub.cons rfl $ S1 rfl
 · exact ⟨hM, Nat.zero_le _, rfl, by simp, .inl rfl⟩
 rintro y vq vx prior pix w16 ⟨hM, hy, hR, hpx, hpr⟩
 refine Kb $ Kp rfl $ Ka $ C.seq $ C.cond' rfl (fun hC8 => ?_) (fun hC8 => ?_)
 ·
  have hy' : y < ht := by omega
  have hm1 : (y + 1) * sz ≤ ht * sz := Nat.mul_le_mul_right _ (by omega)
  have hm2 : (y + 1) * sz = y * sz + sz := by rw [Nat.add_mul, Nat.one_mul]
  have hm3 : y * wd ≤ ht * wd := Nat.mul_le_mul_right _ hy
  rw [Nat.mul_comm ht wd] at hm3
  have hcl : (cutL (y * sz + 1) ((y + 1) * sz) out).length = sz - 1 := by rw [cut_len2 (by omega)]; omega
  have hal := at_le out (y * sz)
  refine Kk $ C.seq $ C.block $ Kb $ Km rfl $ Kc rfl $ C.seq $ C.heldE (by kernel_rfl) fun wh17 hwh17 _ => ?_
  have hS := hwh17
  have hM0 := hM
  have hM := M.ofExt hwh17
  refine Kt 0 rfl (by kernel_rfl) hS (fun w' hS => by have hM := hM0.ext hS; exact Y.mv rfl) rfl $ Kt 1 rfl (by kernel_rfl) hS (fun w' hS => by have hM := hM0.ext hS; exact Y.mv rfl) rfl $ Kt 2 rfl (by kernel_rfl) hS (fun w' hS => by have hM := hM0.ext hS; exact Y.mv rfl) rfl $ Kt 3 rfl (by kernel_rfl) hS (fun w' hS => by have hM := hM0.ext hS; exact Y.mulN (a := y) (b := sz) rfl rfl (by omega)) rfl $ Ku 4 rfl (by kernel_rfl) hS (Y.idx1 (k := y * sz) rfl rfl ((hM0.ext hS).sl 1 rfl) rfl (by omega) U22 (by kernel_rfl)) (fun w' hS => by have hM := hM0.ext hS; exact Y.idx1 (k := y * sz) rfl rfl (hM.sl 1 rfl) rfl (by omega) U22 (by kernel_rfl)) rfl $ Kt 7 rfl (by kernel_rfl) hS (fun w' hS => by have hM := hM0.ext hS; exact Y.mv rfl) rfl $ Kt 8 rfl (by kernel_rfl) hS (fun w' hS => by have hM := hM0.ext hS; exact Y.mv rfl) rfl $ Kt 9 rfl (by kernel_rfl) hS (fun w' hS => by have hM := hM0.ext hS; exact Y.mv rfl) rfl $ Kt 10 rfl (by kernel_rfl) hS (fun w' hS => by have hM := hM0.ext hS; exact Y.mulN (a := y) (b := sz) rfl rfl (by omega)) rfl $ Kt 11 rfl (by kernel_rfl) hS (fun w' hS => by have hM := hM0.ext hS; exact Y.addN (a := y * sz) (b := 1) rfl rfl (by omega)) rfl ?_
  refine Kt 12 rfl (by kernel_rfl) hS (fun w' hS => by have hM := hM0.ext hS; exact Y.mv rfl) rfl $ Kt 13 rfl (by kernel_rfl) hS (fun w' hS => by have hM := hM0.ext hS; exact Y.addN (a := y) (b := 1) rfl rfl (by omega)) rfl $ Kt 14 rfl (by kernel_rfl) hS (fun w' hS => by have hM := hM0.ext hS; exact Y.mv rfl) rfl $ Kt 15 rfl (by kernel_rfl) hS (fun w' hS => by have hM := hM0.ext hS; exact Y.mulN (a := y + 1) (b := sz) rfl rfl (by omega)) rfl $ Ku 16 rfl (by kernel_rfl) hS (Y.slcP (y * sz + 1) ((y + 1) * sz) rfl (.inl rfl) (.inl rfl) ((hM0.ext hS).sl 1 rfl) U22 (by kernel_rfl) (by omega) (by omega)) (fun w' hS => by have hM := hM0.ext hS; exact Y.slcP (y * sz + 1) ((y + 1) * sz) rfl (.inl rfl) (.inl rfl) (hM.sl 1 rfl) U22 (by kernel_rfl) (by omega) (by omega)) rfl $ Kt 17 rfl (by kernel_rfl) hS (fun w' hS => by have hM := hM0.ext hS; exact Y.mv rfl) rfl $ H.only 5 rfl (by kernel_rfl) $ E.load rfl U5 rfl (RdL.cellA (l := out) (j := y * sz) ((hM0.ext hM.toExt).sl 1 rfl) rfl (by omega)) rfl ?_
  rw [u8c, at_get (show y * sz < out.length by omega)]
  have hS := hM.toExt
  refine H.back hS $ Ku 6 rfl (by kernel_rfl) hS (Y.conv rfl U5 U3 (IntWalk.i64_in _ (by omega))) (fun w' hS => by have hM := hM0.ext hS; exact Y.conv rfl U5 U3 (IntWalk.i64_in _ (by omega))) rfl $ H.only 18 rfl (by kernel_rfl) $ E.call rfl rfl (Unfilter_ret ((at_ out (y * sz)) : Int) _ vq (cutL (y * sz + 1) ((y + 1) * sz) out) prior _ ((RdL.partV (l := out) (a := y * sz + 1) (b := (y + 1) * sz) (hM0.sl 1 rfl) (by omega) (by omega)).ext hM.toExt) ((hM0.sl 4 rfl).ext hM.toExt) (by omega)) ?_
  rintro _ w17 ⟨v164, rfl, m⟩
  have hM := hM.call m
  have hS := hM.toExt
  refine H.back hS $ Kt 19 rfl (by kernel_rfl) hS (fun w' hS => by have hM := hM0.ext hS; exact Y.mv rfl) rfl $ Kt 20 rfl (by kernel_rfl) hS (fun w' hS => by have hM := hM0.ext hS; exact Y.ext rfl rfl) rfl $ Kt 21 rfl (by kernel_rfl) hS (fun w' hS => by have hM := hM0.ext hS; exact Y.ext rfl rfl) rfl $ Kt 22 rfl (by kernel_rfl) hS (fun w' hS => by have hM := hM0.ext hS; exact Y.asg rfl) rfl $ Kt 23 rfl (by kernel_rfl) hS (fun w' hS => by have hM := hM0.ext hS; exact Y.asg rfl) rfl $ H.done (by kernel_rfl) ?_
  have hM := hM0.call hM
  refine X.next $ C.seq $ Kb $ Km rfl $ Kp rfl $ Ka $ C.cond' rfl (fun hC9 => ?_) (fun hC9 => ?_)
  ·
   have hE : 4 < (at_ out (y * sz)) := Decidable.byContradiction fun h => hC9 (by rw [apE, if_neg (by omega), if_neg (fun k => by rcases hpr with h2 | h2; exact k.1 h2; exact k.2 (by rw [h2, hcl]))])
   have hE2 : apE ((at_ out (y * sz)) : Int) (cutL (y * sz + 1) ((y + 1) * sz) out) prior = 37 := by rw [apE, if_pos (by omega)]
   rw [hE2]
   refine Kb $ E.buildC (cs := [_, _, _]) [.int .i64 0, .int .i64 0, .slice none 0 0] [] rfl rfl (by kernel_rfl) rfl $ Km rfl $ E.storeAM 0 hM rfl rfl rfl (by kernel_rfl) rfl (ones rfl $ ones rfl $ ones rfl $ ones_nil) ?_
   intro w19 hM
   refine Kc rfl $ C.ret $ X.retT $ X.retB $ X.retT $ X.retT $ X.retB $ X.retT $ retAT rfl rfl rfl U24 rfl (by exact hM.blk 0 rfl) (by kernel_rfl) ?_
   exact ⟨0, 0, nilS, [], 37, rfl, (hM.pick [] (by decide)).nil u8 5, .inr ⟨by decide, by rw [himg, rwk_f hR hE (by omega)], rfl, rfl, rfl⟩⟩
  have hE : apE ((at_ out (y * sz)) : Int) (cutL (y * sz + 1) ((y + 1) * sz) out) prior = 0 := Decidable.byContradiction hC9
  have hm5 : ¬ 4 < (at_ out (y * sz)) := fun h => by
   rw [apE, if_pos (by omega)] at hE; cases hE
  have hO2 : apO unf ((at_ out (y * sz)) : Int) (cutL (y * sz + 1) ((y + 1) * sz) out) prior = unf (at_ out (y * sz)) (cutL (y * sz + 1) ((y + 1) * sz) out) prior := by rw [apO, if_pos hE, Int.toNat_natCast]
  rw [hO2] at hM
  have hul := unf_len (at_ out (y * sz)) (cutL (y * sz + 1) ((y + 1) * sz) out) prior
  refine Kk $ Kb $ E.fld (o := 2) (sz := 0) rfl U24 rfl rfl (by kernel_rfl) rfl $ E.load rfl U22 rfl (hM.bcell 2 rfl rfl) rfl $ Kf rfl $ Km rfl $ E.call rfl rfl (appendPixels_ret vx v164 pix (unf (at_ out (y * sz)) (cutL (y * sz + 1) ((y + 1) * sz) out) prior) wd d _ (hM.sep1 3 rfl) (hM.sl 5 rfl) (hM.offSl 5 3 (by decide) rfl rfl) hd4 (by omega) (by rw [← hq]; omega) (by omega)) ?_
  rintro v176 w19 m
  have hM := hM.call1 3 rfl (by simp) m
  refine E.fld (o := 2) (sz := 0) rfl U24 rfl rfl (by kernel_rfl) rfl $ E.storeM 2 hM rfl rfl rfl (by kernel_rfl) (hM.sl 3 rfl).one rfl ?_
  intro w21 hM
  refine Ka $ C.region $ Km rfl $ Kn rfl $ E.nil $ X.outN $ X.next $ C.region $ E.add rfl rfl (by omega) rfl $ Km rfl $ E.nil $ X.again5 (y + 1) v164 v176 _ _ (Sub.cons rfl $ S1 rfl) rfl ⟨hM.pick [0, 1, 2, 3, 5] (by decide), by omega, rwk_t hR hm5, by rw [List.length_append, vls_len, hpx, Nat.add_mul, Nat.one_mul], .inr (by rw [hul, hcl])⟩ (by omega)
 obtain rfl : y = ht := by omega
 rw [hR] at himg
 simp only at himg
 refine Kx $ Kb $ E.loadA (cs := [i64 (wd : Int), i64 (y : Int), vx]) rfl U24 rfl (by kernel_rfl) (hM.bat 2 rfl) rfl $ E.storeAM 0 hM rfl rfl rfl (by kernel_rfl) rfl (ones rfl $ ones rfl $ ones (hM.sl 3 rfl).one $ ones_nil) ?_
 intro w22 hM
 refine Kc rfl $ C.ret $ retAT rfl rfl rfl U24 rfl (by exact hM.blk 0 rfl) (by kernel_rfl) ?_
 exact ⟨_, _, vx, pix, 0, rfl, hM.pick [3] (by decide), .inl ⟨wd, y, rfl, rfl, rfl, himg⟩⟩
end Go.Proofs.YtajklleiifhipaaGreatDoor
namespace Go.Proofs.YtajklleiifhipaaGreatDoor
open Go.RowKit Sym
open Pg
theorem take_more {α : Type} {a b : List α} {k : Nat} (ha : k < a.length) (hb : k < b.length) (h : a.take k = b.take k) (he : a[k] = b[k]) : a.take (k + 1) = b.take (k + 1) := by
 rw [← List.take_append_getElem ha, ← List.take_append_getElem hb, h, he]
def H13 : List UInt8 := [0, 0, 0, 1, 0, 0, 0, 1, 1, 0, 0, 0, 0]
theorem ex_facts : ∃ P Z, jn [(tH, H13), (tD, Z), (tE, [])] = .ok P ∧ rdf P = .ok [(tH, H13), (tD, Z), (tE, [])] ∧ rdi P = .ok (1, 1, [0]) ∧ wri 1 1 [0] = P ∧ Z.length ≤ 4194304 := by
 obtain ⟨s1, s2, _, _⟩ := dta_small (pix := [0]) (w := 1) (h := 1) rfl (by omega) (by decide) (by omega)
 have hj := wck_jn (pix := [0]) (w := 1) (h := 1) (by omega)
 have hw := wrv_len (pix := [0]) (w := 1) (h := 1) (by omega)
 have hh : hdr 1 1 (dep [0]) = H13 := by decide
 have e : wck 1 1 [0] = [(tH, H13), (tD, Df.wrv (dta [0] 1 (dep [0]) 1) 2), (tE, [])] := by rw [← hh]; rfl
 refine ⟨wri 1 1 [0], Df.wrv (dta [0] 1 (dep [0]) 1) 2, by rw [← e]; exact hj, by rw [← e]; exact rdf_jn hj, rdi_wri rfl (by omega) (by omega) (by decide), rfl, by omega⟩
theorem ex_f1 : apE 1 [5, 7, 4] [] = 0 ∧ apO fil 1 [5, 7, 4] [] = [5, 2, 253] := by decide +kernel
theorem ex_f2 : apE 4 [10, 20] [5, 6] = 0 ∧ apO fil 4 [10, 20] [5, 6] = [5, 10] := by decide +kernel
theorem ex_f3 : apE 4 [5, 10] [5, 6] = 0 ∧ apO unf 4 [5, 10] [5, 6] = [10, 20] := by decide +kernel
theorem rdl_nilS {w : World} : RdL u8 w nilS [] := rdl_nil
theorem EqualImage_ret (W1 H1 : Int) (p1 : Value) (l1 : List UInt8) (W2 H2 : Int) (p2 : Value) (l2 : List UInt8) (w : World) (h1 : RdL u8 w p1 l1) (h2 : RdL u8 w p2 l2) :
  Ret Tryz.prog 10 #[imv W1 H1 p1, imv W2 H2 p2] w fun v w' => v = .bool (decide (W1 = W2 ∧ H1 = H2 ∧ l1 = l2)) ∧ Ext w w' := by
 have hM := M.start w
 refine enter Tryz.func10 rfl (by kernel_rfl) Tryz.ntmps10 rfl $ Kb $ E.boxM hM rfl rfl rfl ?_
 intro b2 w0 hM
 refine E.boxM hM rfl rfl rfl ?_
 intro b3 w1 hM
 refine Kc rfl $ C.seq $ C.chainE [(2, _), (3, _)] rfl [(26, .bool (decide (W1 ≠ W2 ∨ H1 ≠ H2 ∨ l1.length ≠ l2.length)))] ?_ ?_
 ·
  refine C.region $ E.fld (o := 0) (sz := 0) rfl U24 rfl rfl (by kernel_rfl) rfl $ E.load rfl U3 rfl (hM.bcell 0 rfl rfl) rfl $ E.fld (o := 0) (sz := 0) rfl U24 rfl rfl (by kernel_rfl) rfl $ E.load rfl U3 rfl (hM.bcell 1 rfl rfl) rfl $ Kp rfl $ Km rfl $ E.split 11 rfl (fun g11 => ?_) (fun g11 => ?_)
  ·
   try simp only [Ya, Yb, Yc, Yd, Ye, Yf] at g11
   refine Kq rfl $ Kq rfl $ Kq rfl $ Kq rfl $ Kq rfl $ Kr rfl $ Km rfl $ Kq rfl $ Kq rfl $ Kq rfl $ Kq rfl $ Kq rfl $ Kq rfl $ Kq rfl $ Kr rfl $ E.nil $ X.join0 (Sub.cons (look_eq rfl (congrArg Value.bool (by exact (decide_eq_true (p := W1 ≠ W2 ∨ H1 ≠ H2 ∨ l1.length ≠ l2.length) (by omega)).symm))) $ Sub.nil _) rfl rfl
  try simp only [Ya, Yb, Yc, Yd, Ye, Yf] at g11
  refine Ko rfl $ E.fld (o := 1) (sz := 0) rfl U24 rfl rfl (by kernel_rfl) rfl $ Ko rfl $ E.load rfl U3 rfl (hM.bcell 0 rfl rfl) rfl $ Ko rfl $ E.fld (o := 1) (sz := 0) rfl U24 rfl rfl (by kernel_rfl) rfl $ Ko rfl $ E.load rfl U3 rfl (hM.bcell 1 rfl rfl) rfl $ Ko rfl $ Kp rfl $ Kr rfl $ Km rfl $ E.split 18 rfl (fun g18 => ?_) (fun g18 => ?_)
  ·
   try simp only [Ya, Yb, Yc, Yd, Ye, Yf] at g18
   refine Kq rfl $ Kq rfl $ Kq rfl $ Kq rfl $ Kq rfl $ Kq rfl $ Kq rfl $ Kr rfl $ E.nil $ X.join0 (Sub.cons (look_eq rfl (congrArg Value.bool (by exact (decide_eq_true (p := W1 ≠ W2 ∨ H1 ≠ H2 ∨ l1.length ≠ l2.length) (by omega)).symm))) $ Sub.nil _) rfl rfl
  try simp only [Ya, Yb, Yc, Yd, Ye, Yf] at g18
  refine Ko rfl $ E.fld (o := 2) (sz := 0) rfl U24 rfl rfl (by kernel_rfl) rfl $ Ko rfl $ E.load rfl U22 rfl (hM.bcell 0 rfl rfl) rfl $ Ko rfl $ E.lenv rfl (Rd.shape (hM.arg0 h1)) U22 rfl $ Ko rfl $ E.fld (o := 2) (sz := 0) rfl U24 rfl rfl (by kernel_rfl) rfl $ Ko rfl $ E.load rfl U22 rfl (hM.bcell 1 rfl rfl) rfl $ Ko rfl $ E.lenv rfl (Rd.shape (hM.arg0 h2)) U22 rfl $ Ko rfl $ Kp rfl $ Kr rfl $ E.nil $ X.join0 (Sub.cons (look_eq rfl (congrArg Value.bool (by exact decide_eq_decide.2 ⟨fun h => by omega, fun h => by omega⟩))) $ Sub.nil _) rfl rfl
 refine C.cond' rfl (fun hC0 => ?_) (fun hC0 => ?_)
 ·
  refine Kb $ Kc rfl $ C.ret $ X.retT $ ret1 rfl rfl ?_
  exact ⟨congrArg _ (decide_eq_false (p := W1 = W2 ∧ H1 = H2 ∧ l1 = l2) (fun h => by have := congrArg List.length h.2.2; omega)).symm, hM.toExt⟩
 have hle := Rd.le h1
 refine Kk $ C.seq $ Kb $ Kc rfl $ C.block $ C.loop1 [(2, _), (3, _)] rfl (fun (k : Nat) => [(5, i64 k)]) (fun (k : Nat) w' => M w (Nn) w' [Rg.blk b2 24 [i64 W1, i64 H1, p1], Rg.blk b3 24 [i64 W2, i64 H2, p2]] ∧ k ≤ l1.length ∧ l1.take k = l2.take k) (fun (k : Nat) => l1.length - k) 0 ?_ ?_ ?_
 · exact S1 rfl
 · exact ⟨hM, Nat.zero_le _, by simp⟩
 rintro k w2 ⟨hM, hk, ht⟩
 refine C.seq $ Kb $ Km rfl $ E.fld (o := 2) (sz := 0) rfl U24 rfl rfl (by kernel_rfl) rfl $ E.load rfl U22 rfl (hM.bcell 0 rfl rfl) rfl $ E.lenv rfl (Rd.shape (hM.arg0 h1)) U22 rfl $ Kp rfl $ Ka $ C.cond' rfl (fun hC1 => ?_) (fun hC1 => ?_)
 ·
  have hk1 : k < l1.length := by omega
  have hk2 : k < l2.length := by omega
  refine Kk $ C.seq $ C.block $ C.seq $ C.drawn (by kernel_rfl) (by kernel_rfl) $ Q.fld (o := 2) (sz := 0) rfl U24 rfl rfl (by kernel_rfl) rfl $ Q.load rfl U22 rfl (hM.bcell 0 rfl rfl) rfl $ Q.mv rfl rfl $ Q.idx1 (k := k) rfl rfl (hM.arg0 h1) rfl (by omega) U22 (by kernel_rfl) rfl $ Q.load rfl U5 rfl ((hM.arg0 h1).cellA rfl (by omega)) rfl ?_
  rw [u8c]
  refine Q.fld (o := 2) (sz := 0) rfl U24 rfl rfl (by kernel_rfl) rfl $ Q.load rfl U22 rfl (hM.bcell 1 rfl rfl) rfl $ Q.mv rfl rfl $ Q.idx1 (k := k) rfl rfl (hM.arg0 h2) rfl (by omega) U22 (by kernel_rfl) rfl $ Q.load rfl U5 rfl ((hM.arg0 h2).cellA rfl (by omega)) rfl ?_
  rw [u8c]
  refine Q.bin rfl rfl rfl rfl $ Q.nil $ fun w3 hx3 => ?_
  have hM := hM.ext hx3
  refine X.next $ C.cond' rfl (fun hC2 => ?_) (fun hC2 => ?_)
  ·
   refine Kb $ Kc rfl $ C.ret $ X.retB $ X.retT $ X.retT $ X.retB $ X.retT $ ret1 rfl rfl ?_
   exact ⟨congrArg _ (decide_eq_false (p := W1 = W2 ∧ H1 = H2 ∧ l1 = l2) (fun h => by obtain ⟨_, _, rfl⟩ := h; exact hC2 rfl)).symm, hM.toExt⟩
  have heq : l1[k] = l2[k] := UInt8.toNat_inj.1 (by omega)
  refine C.skip $ X.outN $ X.next $ C.region $ Km rfl $ E.add rfl rfl (by omega) rfl $ Kn rfl $ E.nil $ X.again1 (k + 1) (S1 rfl) rfl ⟨hM, by omega, take_more hk1 hk2 ht heq⟩ (by omega)
 obtain rfl : k = l1.length := by omega
 have hll : l1.length = l2.length := by omega
 rw [List.take_length, hll, List.take_length] at ht
 refine Kx $ Kb $ Kc rfl $ C.ret $ ret1 rfl rfl ?_
 exact ⟨congrArg _ (decide_eq_true (p := W1 = W2 ∧ H1 = H2 ∧ l1 = l2) ⟨by omega, by omega, ht⟩).symm, hM.toExt⟩
set_option maxHeartbeats 4000000 in
set_option maxRecDepth 8000 in
theorem example_ret (w : World) (hO : Ord w) :
  Ret Tryz.prog 5 #[] w fun v w' => v = .bool true ∧ Ext w w' := by
 have hM := M.start w
 refine enter Tryz.func5 rfl (by kernel_rfl) Tryz.ntmps5 rfl $ Kb $ Kd rfl $ E.mkM (enc := u8) (e := 5) [5, 7, 4] hM rfl (fun _ => by kernel_rfl) rfl rfl rfl ?_
 intro v17 w0 hM
 try dsimp only [Za, Zb, Zc, Zd, repl] at hM
 refine E.call rfl rfl (Filter_ret 1 v17 nilS [5, 7, 4] [] _ (hM.sl 0 rfl) rdl_nilS (by decide)) ?_
 rintro _ w1 ⟨vo1, rfl, m⟩
 rw [ex_f1.2] at m
 rw [ex_f1.1]
 have hM := hM.call m
 try dsimp only [Za, Zb, Zc, Zd, repl] at hM
 refine Km rfl $ E.ext rfl rfl rfl $ E.ext rfl rfl rfl $ Kn rfl $ Kd rfl $ E.mkM (enc := u8) (e := 5) [10, 20] hM rfl (fun _ => by kernel_rfl) rfl rfl rfl ?_
 intro v22 w2 hM
 try dsimp only [Za, Zb, Zc, Zd, repl] at hM
 refine E.mkM (enc := u8) (e := 5) [5, 6] hM rfl (fun _ => by kernel_rfl) rfl rfl rfl ?_
 intro v23 w3 hM
 try dsimp only [Za, Zb, Zc, Zd, repl] at hM
 refine E.call rfl rfl (Filter_ret 4 v22 v23 [10, 20] [5, 6] _ (hM.sl 2 rfl) (hM.sl 3 rfl) (by decide)) ?_
 rintro _ w2 ⟨vo2, rfl, m⟩
 rw [ex_f2.2] at m
 rw [ex_f2.1]
 have hM := hM.call m
 try dsimp only [Za, Zb, Zc, Zd, repl] at hM
 refine Km rfl $ E.ext rfl rfl rfl $ E.ext rfl rfl rfl $ Kn rfl $ Kd rfl $ E.mkM (enc := u8) (e := 5) [5, 10] hM rfl (fun _ => by kernel_rfl) rfl rfl rfl ?_
 intro v28 w5 hM
 try dsimp only [Za, Zb, Zc, Zd, repl] at hM
 refine E.mkM (enc := u8) (e := 5) [5, 6] hM rfl (fun _ => by kernel_rfl) rfl rfl rfl ?_
 intro v29 w6 hM
 try dsimp only [Za, Zb, Zc, Zd, repl] at hM
 refine E.call rfl rfl (Unfilter_ret 4 v28 v29 [5, 10] [5, 6] _ (hM.sl 5 rfl) (hM.sl 6 rfl) (by decide)) ?_
 rintro _ w3 ⟨vo3, rfl, m⟩
 rw [ex_f3.2] at m
 rw [ex_f3.1]
 have hM := hM.call m
 try dsimp only [Za, Zb, Zc, Zd, repl] at hM
 refine Km rfl $ E.ext rfl rfl rfl $ E.ext rfl rfl rfl $ Kn rfl $ Kc rfl $ C.seq $ C.chainE [] rfl [(57, .bool (decide False))] ?_ ?_
 ·
  refine C.region $ Km rfl $ Kp rfl $ Km rfl $ E.split 35 rfl (fun g35 => ?_) (fun g35 => ?_)
  ·
   try simp only [Ya, Yb, Yc, Yd, Ye, Yf] at g35
   simp at g35
  try simp only [Ya, Yb, Yc, Yd, Ye, Yf] at g35
  refine Ko rfl $ Km rfl $ Ko rfl $ Kp rfl $ Kr rfl $ Km rfl $ E.split 39 rfl (fun g39 => ?_) (fun g39 => ?_)
  ·
   try simp only [Ya, Yb, Yc, Yd, Ye, Yf] at g39
   simp at g39
  try simp only [Ya, Yb, Yc, Yd, Ye, Yf] at g39
  refine Ko rfl $ Km rfl $ Ko rfl $ Kp rfl $ Kr rfl $ Km rfl $ E.split 43 rfl (fun g43 => ?_) (fun g43 => ?_)
  ·
   try simp only [Ya, Yb, Yc, Yd, Ye, Yf] at g43
   simp at g43
  try simp only [Ya, Yb, Yc, Yd, Ye, Yf] at g43
  refine Ko rfl $ Km rfl $ Ko rfl $ E.bstr rfl (hM.sl 1 rfl) U22 U5 U9 rfl $ Ko rfl $ E.nestr (l := [5, 2, 253]) (m := [5, 2, 253]) rfl rfl rfl $ Kr rfl $ Km rfl $ E.split 48 rfl (fun g48 => ?_) (fun g48 => ?_)
  ·
   try simp only [Ya, Yb, Yc, Yd, Ye, Yf] at g48
   simp at g48
  try simp only [Ya, Yb, Yc, Yd, Ye, Yf] at g48
  refine Ko rfl $ Km rfl $ Ko rfl $ E.bstr rfl (hM.sl 4 rfl) U22 U5 U9 rfl $ Ko rfl $ E.nestr (l := [5, 10]) (m := [5, 10]) rfl rfl rfl $ Kr rfl $ Km rfl $ E.split 53 rfl (fun g53 => ?_) (fun g53 => ?_)
  ·
   try simp only [Ya, Yb, Yc, Yd, Ye, Yf] at g53
   simp at g53
  try simp only [Ya, Yb, Yc, Yd, Ye, Yf] at g53
  refine Ko rfl $ Km rfl $ Ko rfl $ E.bstr rfl (hM.sl 7 rfl) U22 U5 U9 rfl $ Ko rfl $ E.nestr (l := [10, 20]) (m := [10, 20]) rfl rfl rfl $ Kr rfl $ E.nil $ X.join0 (Sub.cons (look_eq rfl (congrArg Value.bool (by decide))) $ Sub.nil _) rfl rfl
 refine C.cond' rfl (fun hC0 => ?_) (fun hC0 => ?_)
 ·
  exact hC0.elim
 obtain ⟨P, Z, xj, xr, xi, xw, xz⟩ := ex_facts
 refine Kk $ Kb $ E.mk1M (enc := u8) 0 hM rfl U22 elem_Tuint8 rfl rfl ?_
 intro v58 w8 hM
 try dsimp only [Za, Zb, Zc, Zd, repl] at hM
 obtain ⟨x58, rfl⟩ := own_head (hM.own 8 rfl)
 refine E.buildC (cs := [_, _, _]) [.int .i64 0, .int .i64 0, .slice none 0 0] [0, 1, 2] rfl rfl (by kernel_rfl) rfl $ E.allocM (z := .agg #[.int .i64 0, .int .i64 0, .slice none 0 0]) (cs := [.int .i64 0, .int .i64 0, .slice none 0 0]) hM (by kernel_rfl) rfl rfl ?_
 intro b7 w9 hM
 try dsimp only [Za, Zb, Zc, Zd, repl] at hM
 refine E.storeAM 9 hM rfl rfl rfl (by kernel_rfl) rfl (ones rfl $ ones rfl $ ones rfl $ ones_nil) ?_
 intro w10 hM
 try dsimp only [Za, Zb, Zc, Zd, repl] at hM
 refine Ke $ E.loadA (cs := [i64 1, i64 1, slv x58]) rfl U24 rfl (by kernel_rfl) (hM.bat 9 rfl) rfl $ E.call rfl rfl (Write_ret 1 1 (slv x58) [0] _ (hM.sl 8 rfl) (by decide) (hM.ord0 hO)) ?_
 rintro _ w11 ⟨v62, out, e, rfl, m, hw⟩
 have hM := hM.call m
 obtain ⟨rfl, rfl⟩ : 0 = e ∧ P = out := by
  rcases hw with ⟨_, h1, h2⟩ | ⟨h1, _⟩
  · exact ⟨h1.symm, by rw [h2]; exact xw.symm⟩
  exact (h1 (by decide)).elim
 try dsimp only [Za, Zb, Zc, Zd, repl] at hM
 refine Km rfl $ E.ext rfl rfl rfl $ E.ext rfl rfl rfl $ Kn rfl $ Kd rfl $ Km rfl $ E.call rfl rfl (Chunks_ret v62 P _ (hM.sl 10 rfl)) ?_
 rintro _ w12 ⟨v67, hs, cs, e, rfl, m, hv⟩
 have hM := hM.call m
 obtain ⟨rfl, rfl⟩ : 0 = e ∧ [(tH, H13), (tD, Z), (tE, [])] = cs := by
  rw [xr] at hv
  rcases hv with ⟨h1, h2⟩ | ⟨_, h2, _⟩
  · cases h2; exact ⟨h1.symm, rfl⟩
  cases h2
 try dsimp only [Za, Zb, Zc, Zd, repl] at hM
 refine Km rfl $ E.ext rfl rfl rfl $ E.ext rfl rfl rfl $ Kn rfl $ Kd rfl $ Km rfl $ E.call rfl rfl (Read_ret v62 P _ (hM.sl 10 rfl) (hM.ord0 hO)) ?_
 rintro _ w13 ⟨W, H, vp, pix, e, rfl, m, hv⟩
 have hM := hM.call m
 obtain ⟨rfl, rfl, rfl, rfl⟩ : 0 = e ∧ 1 = W ∧ 1 = H ∧ [0] = pix := by
  rw [xi] at hv
  rcases hv with ⟨a, b, h1, h2, h3, h4⟩ | ⟨_, h2, _⟩
  · cases h4; exact ⟨h1.symm, h2.symm, h3.symm, rfl⟩
  cases h2
 try dsimp only [Za, Zb, Zc, Zd, repl] at hM
 refine Km rfl $ E.ext rfl rfl rfl $ E.ext rfl rfl rfl $ E.allocM (z := .agg #[.int .i64 0, .int .i64 0, .slice none 0 0]) (cs := [.int .i64 0, .int .i64 0, .slice none 0 0]) hM (by kernel_rfl) rfl rfl ?_
 intro b12 w14 hM
 try dsimp only [Za, Zb, Zc, Zd, repl] at hM
 refine E.storeAM 14 (cs := [i64 1, i64 1, vp]) hM rfl rfl rfl (by kernel_rfl) rfl (ones rfl $ ones rfl $ ones (hM.sl 13 rfl).one $ ones_nil) ?_
 intro w15 hM
 try dsimp only [Za, Zb, Zc, Zd, repl] at hM
 refine Kc rfl $ C.seq $ C.chainE [(7, _), (8, _), (10, _), (12, _)] rfl [(110, .bool (decide False))] ?_ ?_
 ·
  refine C.region $ Km rfl $ Kp rfl $ Km rfl $ E.split 77 rfl (fun g77 => ?_) (fun g77 => ?_)
  ·
   try simp only [Ya, Yb, Yc, Yd, Ye, Yf] at g77
   simp at g77
  try simp only [Ya, Yb, Yc, Yd, Ye, Yf] at g77
  refine Ko rfl $ Km rfl $ Ko rfl $ Kp rfl $ Kr rfl $ Km rfl $ E.split 81 rfl (fun g81 => ?_) (fun g81 => ?_)
  ·
   try simp only [Ya, Yb, Yc, Yd, Ye, Yf] at g81
   simp at g81
  try simp only [Ya, Yb, Yc, Yd, Ye, Yf] at g81
  refine Ko rfl $ Km rfl $ Ko rfl $ Kp rfl $ Kr rfl $ Km rfl $ E.split 85 rfl (fun g85 => ?_) (fun g85 => ?_)
  ·
   try simp only [Ya, Yb, Yc, Yd, Ye, Yf] at g85
   simp at g85
  try simp only [Ya, Yb, Yc, Yd, Ye, Yf] at g85
  refine Ko rfl $ Km rfl $ Ko rfl $ E.lenv rfl (hM.cks 11 12 rfl rfl).shape U35 rfl $ Ko rfl $ Kp rfl $ Kr rfl $ Km rfl $ E.split 90 rfl (fun g90 => ?_) (fun g90 => ?_)
  ·
   try simp only [Ya, Yb, Yc, Yd, Ye, Yf] at g90
   simp at g90
  try simp only [Ya, Yb, Yc, Yd, Ye, Yf] at g90
  refine Ko rfl $ Km rfl $ Ko rfl $ E.idxF (k := 0) rfl rfl (hM.cks 11 12 rfl rfl).row rfl (by rw [zc_len (hM.cks 11 12 rfl rfl).len]; simp) (by decide) U35 (by kernel_rfl) rfl $ Ko rfl $ E.fld (o := 0) (sz := 0) rfl U39 rfl rfl (by kernel_rfl) rfl $ Ko rfl $ E.load rfl U9 rfl ((hM.cks 11 12 rfl rfl).at (i := 0) (by simp) 0 _ rfl) rfl $ Ko rfl $ E.nestr (l := tH) (m := tH) rfl rfl rfl $ Kr rfl $ Km rfl $ E.split 97 rfl (fun g97 => ?_) (fun g97 => ?_)
  ·
   try simp only [Ya, Yb, Yc, Yd, Ye, Yf] at g97
   simp at g97
  try simp only [Ya, Yb, Yc, Yd, Ye, Yf] at g97
  refine Ko rfl $ Km rfl $ Ko rfl $ E.idxF (k := 1) rfl rfl (hM.cks 11 12 rfl rfl).row rfl (by rw [zc_len (hM.cks 11 12 rfl rfl).len]; simp) (by decide) U35 (by kernel_rfl) rfl $ Ko rfl $ E.fld (o := 0) (sz := 0) rfl U39 rfl rfl (by kernel_rfl) rfl $ Ko rfl $ E.load rfl U9 rfl ((hM.cks 11 12 rfl rfl).at (i := 1) (by simp) 0 _ rfl) rfl $ Ko rfl $ E.nestr (l := tD) (m := tD) rfl rfl rfl $ Kr rfl $ Km rfl $ E.split 104 rfl (fun g104 => ?_) (fun g104 => ?_)
  ·
   try simp only [Ya, Yb, Yc, Yd, Ye, Yf] at g104
   simp at g104
  try simp only [Ya, Yb, Yc, Yd, Ye, Yf] at g104
  refine Ko rfl $ Km rfl $ Ko rfl $ E.idxF (k := 2) rfl rfl (hM.cks 11 12 rfl rfl).row rfl (by rw [zc_len (hM.cks 11 12 rfl rfl).len]; simp) (by decide) U35 (by kernel_rfl) rfl $ Ko rfl $ E.fld (o := 0) (sz := 0) rfl U39 rfl rfl (by kernel_rfl) rfl $ Ko rfl $ E.load rfl U9 rfl ((hM.cks 11 12 rfl rfl).at (i := 2) (by simp) 0 _ rfl) rfl $ Ko rfl $ E.nestr (l := tE) (m := tE) rfl rfl rfl $ Kr rfl $ E.nil $ X.join0 (Sub.cons (look_eq rfl (congrArg Value.bool (by decide))) $ Sub.nil _) rfl rfl
 refine C.cond' rfl (fun hC1 => ?_) (fun hC1 => ?_)
 ·
  exact hC1.elim
 refine Kk $ Kb $ Km rfl $ ?_
 have hbb : ∀ c ∈ [(tH, H13), (tD, Z), (tE, ([] : List UInt8))], c.1.length ≤ 1000000 ∧ c.2.length ≤ 4194304 := fun c hc => by
  have : c = (tH, H13) ∨ c = (tD, Z) ∨ c = (tE, []) := by simpa using hc
  rcases this with rfl | rfl | rfl
  · exact ⟨by decide, by decide⟩
  · exact ⟨by simp [tD], xz⟩
  exact ⟨by decide, by decide⟩
 refine E.call rfl rfl (Join_ret v67 hs [(tH, H13), (tD, Z), (tE, [])] _ (hM.cks 11 12 rfl rfl) hbb) ?_
 rintro _ w16 ⟨v113, out, e, rfl, m, hj⟩
 have hM := hM.call m
 obtain ⟨rfl, rfl⟩ : 0 = e ∧ P = out := by
  rw [xj] at hj
  rcases hj with ⟨h1, h2⟩ | ⟨_, h2, _⟩
  · cases h2; exact ⟨h1.symm, rfl⟩
  cases h2
 try dsimp only [Za, Zb, Zc, Zd, repl] at hM
 refine Km rfl $ E.ext rfl rfl rfl $ E.ext rfl rfl rfl $ Kn rfl $ Kc rfl $ C.cut0 [] rfl [(0, .bool true)] (fun w' => M w (Nn) w' []) ?_ ?_
 ·
  refine C.region $ Km rfl $ E.idxF (k := 0) rfl rfl (hM.cks 11 12 rfl rfl).row rfl (by rw [zc_len (hM.cks 11 12 rfl rfl).len]; simp) (by decide) U35 (by kernel_rfl) rfl $ E.fld (o := 1) (sz := 0) rfl U39 rfl rfl (by kernel_rfl) rfl $ E.load rfl U22 rfl ((hM.cks 11 12 rfl rfl).at (i := 0) (by simp) 1 _ rfl) rfl $ E.bstr rfl ((hM.cks 11 12 rfl rfl).data (i := 0) (by simp)) U22 U5 U9 rfl $ E.eqstr (l := H13) (m := H13) rfl rfl rfl $ Km rfl $ E.split 122 rfl (fun g122 => ?_) (fun g122 => ?_)
  ·
   try simp only [Ya, Yb, Yc, Yd, Ye, Yf] at g122
   refine Ko rfl $ Km rfl $ Ko rfl $ Kp rfl $ Kr rfl $ Km rfl $ E.split 126 rfl (fun g126 => ?_) (fun g126 => ?_)
   ·
    try simp only [Ya, Yb, Yc, Yd, Ye, Yf] at g126
    refine Ko rfl $ Km rfl $ Ko rfl $ E.bstr rfl (hM.sl 15 rfl) U22 U5 U9 rfl $ Ko rfl $ Km rfl $ Ko rfl $ E.bstr rfl (hM.sl 10 rfl) U22 U5 U9 rfl $ Ko rfl $ E.eqstr (l := P) (m := P) rfl rfl rfl $ Kr rfl $ Km rfl $ E.split 133 rfl (fun g133 => ?_) (fun g133 => ?_)
    ·
     try simp only [Ya, Yb, Yc, Yd, Ye, Yf] at g133
     refine Ko rfl $ E.loadA (cs := [i64 1, i64 1, vp]) rfl U24 rfl (by kernel_rfl) (hM.bat 14 rfl) rfl $ Ko rfl $ E.loadA (cs := [i64 1, i64 1, slv x58]) rfl U24 rfl (by kernel_rfl) (hM.bat 9 rfl) rfl $ Ko rfl $ E.call rfl rfl (EqualImage_ret 1 1 vp [0] 1 1 (slv x58) [0] _ (hM.sl 13 rfl) (hM.sl 8 rfl)) ?_
     rintro _ w17 ⟨rfl, x17⟩
     have hM := hM.ext x17
     try dsimp only [Za, Zb, Zc, Zd, repl] at hM
     refine Kr rfl $ Kn rfl $ E.nil $ X.join0  (Sub.cons (look_eq rfl (congrArg Value.bool (by decide))) $ Sub.nil _) rfl (hM.pick [] (by decide))
    try simp only [Ya, Yb, Yc, Yd, Ye, Yf] at g133
    simp at g133
   try simp only [Ya, Yb, Yc, Yd, Ye, Yf] at g126
   simp at g126
  try simp only [Ya, Yb, Yc, Yd, Ye, Yf] at g122
  simp at g122
 rintro  w18 hM
 refine C.ret $ ret1 rfl rfl ?_
 exact ⟨rfl, hM.toExt⟩
end Go.Proofs.YtajklleiifhipaaGreatDoor
namespace Go.Proofs.YtajklleiifhipaaGreatDoor
open Go.RowKit Sym
open Pg
theorem rfits_ret (W H : Int) (w : World) :
  Ret Tryz.prog 69 #[i64 W, i64 H] w fun v w' => v = .bool (decide (1 ≤ W ∧ W ≤ 4096 ∧ 1 ≤ H ∧ H ≤ 4096 ∧ W * H ≤ 4194304)) ∧ Ext w w' := by
 have hM := M.start w
 refine enter Tryz.func69 rfl (by kernel_rfl) Tryz.ntmps69 rfl $ Kb $ Kc rfl $ C.chainE [] rfl [(4, .bool (decide (1 ≤ W ∧ W ≤ 4096 ∧ 1 ≤ H ∧ H ≤ 4096 ∧ W * H ≤ 4194304)))] ?_ ?_
 ·
  refine C.region $ Km rfl $ Kp rfl $ Km rfl $ E.split 7 rfl (fun g7 => ?_) (fun g7 => ?_)
  ·
   try simp only [Ya, Yb, Yc, Yd, Ye, Yf] at g7
   refine Ko rfl $ Km rfl $ Ko rfl $ Kp rfl $ Kr rfl $ Km rfl $ E.split 11 rfl (fun g11 => ?_) (fun g11 => ?_)
   ·
    try simp only [Ya, Yb, Yc, Yd, Ye, Yf] at g11
    refine Ko rfl $ Km rfl $ Ko rfl $ Kp rfl $ Kr rfl $ Km rfl $ E.split 15 rfl (fun g15 => ?_) (fun g15 => ?_)
    ·
     try simp only [Ya, Yb, Yc, Yd, Ye, Yf] at g15
     refine Ko rfl $ Km rfl $ Ko rfl $ Kp rfl $ Kr rfl $ Km rfl $ E.split 19 rfl (fun g19 => ?_) (fun g19 => ?_)
     ·
      try simp only [Ya, Yb, Yc, Yd, Ye, Yf] at g19
      have hms := mul_small (a := W) (b := H) (by omega) (by omega) (by omega) (by omega)
      refine Ko rfl $ Km rfl $ Ko rfl $ Km rfl $ Ko rfl $ E.mul rfl rfl (by omega) rfl $ Ko rfl $ Kp rfl $ Kr rfl $ Kn rfl $ E.nil $ X.join0 (Sub.cons (look_eq rfl (congrArg Value.bool (by exact decide_eq_decide.2 ⟨fun h => by omega, fun h => by omega⟩))) $ Sub.nil _) rfl rfl
     try simp only [Ya, Yb, Yc, Yd, Ye, Yf] at g19
     refine Kq rfl $ Kq rfl $ Kq rfl $ Kq rfl $ Kr rfl $ Kn rfl $ E.nil $ X.join0 (Sub.cons (look_eq rfl (congrArg Value.bool (by exact (decide_eq_false (p := 1 ≤ W ∧ W ≤ 4096 ∧ 1 ≤ H ∧ H ≤ 4096 ∧ W * H ≤ 4194304) (by omega)).symm))) $ Sub.nil _) rfl rfl
    try simp only [Ya, Yb, Yc, Yd, Ye, Yf] at g15
    refine Kq rfl $ Kq rfl $ Kr rfl $ Km rfl $ Kq rfl $ Kq rfl $ Kq rfl $ Kq rfl $ Kr rfl $ Kn rfl $ E.nil $ X.join0 (Sub.cons (look_eq rfl (congrArg Value.bool (by exact (decide_eq_false (p := 1 ≤ W ∧ W ≤ 4096 ∧ 1 ≤ H ∧ H ≤ 4096 ∧ W * H ≤ 4194304) (by omega)).symm))) $ Sub.nil _) rfl rfl
   try simp only [Ya, Yb, Yc, Yd, Ye, Yf] at g11
   refine Kq rfl $ Kq rfl $ Kr rfl $ Km rfl $ Kq rfl $ Kq rfl $ Kr rfl $ Km rfl $ Kq rfl $ Kq rfl $ Kq rfl $ Kq rfl $ Kr rfl $ Kn rfl $ E.nil $ X.join0 (Sub.cons (look_eq rfl (congrArg Value.bool (by exact (decide_eq_false (p := 1 ≤ W ∧ W ≤ 4096 ∧ 1 ≤ H ∧ H ≤ 4096 ∧ W * H ≤ 4194304) (by omega)).symm))) $ Sub.nil _) rfl rfl
  try simp only [Ya, Yb, Yc, Yd, Ye, Yf] at g7
  refine Kq rfl $ Kq rfl $ Kr rfl $ Km rfl $ Kq rfl $ Kq rfl $ Kr rfl $ Km rfl $ Kq rfl $ Kq rfl $ Kr rfl $ Km rfl $ Kq rfl $ Kq rfl $ Kq rfl $ Kq rfl $ Kr rfl $ Kn rfl $ E.nil $ X.join0 (Sub.cons (look_eq rfl (congrArg Value.bool (by exact (decide_eq_false (p := 1 ≤ W ∧ W ≤ 4096 ∧ 1 ≤ H ∧ H ≤ 4096 ∧ W * H ≤ 4194304) (by omega)).symm))) $ Sub.nil _) rfl rfl
 refine C.ret $ ret1 rfl rfl ?_
 exact ⟨rfl, hM.toExt⟩
theorem rValid_ret (W H : Int) (vp : Value) (pix : List UInt8) (w : World) (hp : RdL u8 w vp pix) :
  Ret Tryz.prog 46 #[imv W H vp] w fun v w' => v = .bool (decide (vld W H pix.length)) ∧ Ext w w' := by
 have hM := M.start w
 refine enter Tryz.func46 rfl (by kernel_rfl) Tryz.ntmps46 rfl $ Kb $ E.boxM hM rfl rfl rfl ?_
 intro b1 w0 hM
 refine Kc rfl $ C.cut0 [] rfl [(2, .bool (decide (vld W H pix.length)))] (fun w' => M w (Nn) w' []) ?_ ?_
 ·
  refine C.region $ E.fld (o := 0) (sz := 0) rfl U24 rfl rfl (by kernel_rfl) rfl $ E.load rfl U3 rfl (hM.bcell 0 rfl rfl) rfl $ E.fld (o := 1) (sz := 0) rfl U24 rfl rfl (by kernel_rfl) rfl $ E.load rfl U3 rfl (hM.bcell 0 rfl rfl) rfl $ E.call rfl rfl (rfits_ret W H _) ?_
  rintro _ w1 ⟨rfl, x1⟩
  have hM := hM.ext x1
  refine Km rfl $ E.split 8 rfl (fun g8 => ?_) (fun g8 => ?_)
  ·
   try simp only [Ya, Yb, Yc, Yd, Ye, Yf] at g8
   have g8' : 1 ≤ W ∧ W ≤ 4096 ∧ 1 ≤ H ∧ H ≤ 4096 ∧ W * H ≤ 4194304 := by simpa using g8
   have hms := mul_small (a := W) (b := H) (by omega) (by omega) (by omega) (by omega)
   refine Ko rfl $ E.fld (o := 2) (sz := 0) rfl U24 rfl rfl (by kernel_rfl) rfl $ Ko rfl $ E.load rfl U22 rfl (hM.bcell 0 rfl rfl) rfl $ Ko rfl $ E.lenv rfl (Rd.shape (hM.arg0 hp)) U22 rfl $ Ko rfl $ E.fld (o := 0) (sz := 0) rfl U24 rfl rfl (by kernel_rfl) rfl $ Ko rfl $ E.load rfl U3 rfl (hM.bcell 0 rfl rfl) rfl $ Ko rfl $ E.fld (o := 1) (sz := 0) rfl U24 rfl rfl (by kernel_rfl) rfl $ Ko rfl $ E.load rfl U3 rfl (hM.bcell 0 rfl rfl) rfl $ Ko rfl $ E.mul rfl rfl (by omega) rfl $ Ko rfl $ Kp rfl $ Kr rfl $ Kn rfl $ E.nil $ X.join0  (Sub.cons (look_eq rfl (congrArg Value.bool (decide_eq_decide.2 ⟨fun h => ⟨g8'.1, g8'.2.1, g8'.2.2.1, g8'.2.2.2.1, g8'.2.2.2.2, h⟩, fun h => h.2.2.2.2.2⟩))) $ Sub.nil _) rfl (hM.pick [] (by decide))
  try simp only [Ya, Yb, Yc, Yd, Ye, Yf] at g8
  have g8' : ¬ (1 ≤ W ∧ W ≤ 4096 ∧ 1 ≤ H ∧ H ≤ 4096 ∧ W * H ≤ 4194304) := by simpa using g8
  refine Kq rfl $ Kq rfl $ Kq rfl $ Kq rfl $ Kq rfl $ Kq rfl $ Kq rfl $ Kq rfl $ Kq rfl $ Kr rfl $ Kn rfl $ E.nil $ X.join0  (Sub.cons (look_eq rfl (congrArg Value.bool (decide_eq_false (p := vld W H pix.length) (fun h => g8' ⟨h.1, h.2.1, h.2.2.1, h.2.2.2.1, h.2.2.2.2.1⟩)).symm)) $ Sub.nil _) rfl (hM.pick [] (by decide))
 rintro  w2 hM
 refine C.ret $ ret1 rfl rfl ?_
 exact ⟨rfl, hM.toExt⟩
theorem rCheckImage_ret (W H : Int) (vp : Value) (pix : List UInt8) (w : World) (hp : RdL u8 w vp pix) :
  Ret Tryz.prog 20 #[imv W H vp] w fun v w' => v = i64 (if vld W H pix.length then 0 else 1) ∧ Ext w w' := by
 have hM := M.start w
 refine enter Tryz.func20 rfl (by kernel_rfl) Tryz.ntmps20 rfl $ Kb $ E.boxM hM rfl rfl rfl ?_
 intro b1 w0 hM
 refine Kc rfl $ C.seq $ Kb $ E.loadA (cs := [i64 W, i64 H, vp]) rfl U24 rfl (by kernel_rfl) (hM.bat 0 rfl) rfl $ E.call rfl rfl (rValid_ret W H vp pix _ (hM.arg0 hp)) ?_
 rintro _ w1 ⟨rfl, x1⟩
 have hM := hM.ext x1
 refine E.not rfl rfl $ Ka $ C.cond rfl (fun hC0 => ?_) (fun hC0 => ?_)
 ·
  have h0 : ¬ vld W H pix.length := by simpa using hC0
  refine Kb $ Kc rfl $ C.ret $ X.retT $ ret1 rfl rfl ?_
  exact ⟨by rw [if_neg h0], hM.toExt⟩
 have h0 : vld W H pix.length := by simpa using hC0
 refine Kk $ Kb $ Kc rfl $ C.ret $ ret1 rfl rfl ?_
 exact ⟨by rw [if_pos h0], hM.toExt⟩
end Go.Proofs.YtajklleiifhipaaGreatDoor
