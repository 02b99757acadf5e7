/- Texts of the claim, laid together: Pg8, Pg6. -/
import Derived.Test.YtajklleiifhipaaGreatDoorY0
import Derived.Test.YtajklleiifhipaaGreatDoorY3
import Derived.Test.YtajklleiifhipaaGreatDoorY5
import Derived.Test.YtajklleiifhipaaGreatDoorY13
import Derived.Test.YtajklleiifhipaaGreatDoorY18
import Derived.Test.YtajklleiifhipaaGreatDoorY19
import Derived.Test.YtajklleiifhipaaGreatDoorY21
set_option linter.unusedSimpArgs false
set_option linter.unusedVariables false
namespace Go.Proofs.YtajklleiifhipaaGreatDoor
open Go.RowKit Sym
open Pg
theorem arranged2_ret (p : Value) (h0 : Hd) (hr : List Hd) (c : Ck) (r : List Ck) (w : World) (hc : Cks w p (h0 :: hr) (c :: r)) (h4 : ∀ x ∈ r, x.1.length = 4) (hb : (dtc r).length ≤ 100000000) (hrl : r.length ≤ 100000) :
  Ret Tryz.prog 27 #[p] w fun v w' => ∃ (vh vd : Value) (b : Bool) (out : List UInt8) (e : Int), v = .tuple #[vh, vd, .bool b, i64 e] ∧ M w Nn w' [Rg.sl u8 5 vd out] ∧ (((c.1 = tH ∧ c.2.length = 13 ∧ fmd 0 r = true) ∧ e = 0 ∧ vh = slv h0 ∧ out = dtc r ∧ b = anyD r) ∨ ((c.1 ≠ tH ∨ c.2.length ≠ 13 ∨ fmd 0 r = false) ∧ e = 9)) :=
 (arranged_ret p h0 hr c r w hc h4 hb hrl).mono fun v w' h => by
  rcases h with ⟨h1, vd, h2, h3⟩ | ⟨h1, h2, h3⟩
  · exact ⟨_, vd, _, _, 0, h2, h3, .inl ⟨h1, rfl, rfl, rfl, rfl⟩⟩
  exact ⟨_, nilS, _, [], 9, h2, (M.ofExt h3).nil u8 5, .inr ⟨h1, rfl⟩⟩
theorem Cks.hd {w : World} {p : Value} {h0 : Hd} {hr : List Hd} {c : Ck} {r : List Ck} (h : Cks w p (h0 :: hr) (c :: r)) : RdL u8 w (slv h0) c.2 := h.data (i := 0) (by simp)
def RdiV (r : Except Int (Nat × Nat × List UInt8)) (W H : Int) (pix : List UInt8) (e : Int) : Prop := (∃ a b : Nat, e = 0 ∧ W = a ∧ H = b ∧ r = .ok (a, b, pix)) ∨ (e ≠ 0 ∧ r = .error e ∧ W = 0 ∧ H = 0 ∧ pix = [])
namespace Pg
theorem rdi_e {l : List UInt8} {e : Int} (h : rdf l = .error e) : rdi l = .error e := by rw [rdi, h]
theorem rdi_f {l : List UInt8} {c : Ck} {r : List Ck} (h : rdf l = .ok (c :: r)) (h2 : c.1 ≠ tH ∨ c.2.length ≠ 13 ∨ fmd 0 r = false) : rdi l = .error 9 := by
 rw [rdi, h]
 simp only
 rw [if_pos h2]
theorem rdi_i {l : List UInt8} {c : Ck} {r : List Ck} (h : rdf l = .ok (c :: r)) (h2 : c.1 = tH ∧ c.2.length = 13 ∧ fmd 0 r = true) : rdi l = img c.2 (dtc r) (anyD r) := by
 rw [rdi, h]
 simp only
 rw [if_neg]
 rintro (h3 | h3 | h3)
 · exact h3 h2.1
 · exact h3 h2.2.1
 rw [h2.2.2] at h3; cases h3
theorem unf_len (m : Nat) (row prior : List UInt8) : (unf m row prior).length = row.length := unl_len _ _ _ _
theorem dtc_le (l : List Ck) : (dtc l).length ≤ csz l := by
 induction l with
 | nil => simp [dtc]
 | cons c l ih =>
  rw [dtc, csz_cons]
  split
  · rw [List.length_append]; omega
  omega
theorem rwk_t {data prior pix : List UInt8} {sz w d y : Nat} (h : rwk data sz w d y = .ok (prior, pix)) (hm : ¬ 4 < at_ data (y * sz)) : rwk data sz w d (y + 1) = .ok (unf (at_ data (y * sz)) (cutL (y * sz + 1) ((y + 1) * sz) data) prior, pix ++ vls (unf (at_ data (y * sz)) (cutL (y * sz + 1) ((y + 1) * sz) data) prior) w d) := by
 rw [rwk, h]
 simp only
 rw [if_neg hm]
theorem rwk_f {data prior pix : List UInt8} {sz w d y n : Nat} (h : rwk data sz w d y = .ok (prior, pix)) (hm : 4 < at_ data (y * sz)) (hn : y + 1 ≤ n) : rwk data sz w d n = .error 37 := by
 refine rwk_err (y := y + 1) ?_ n hn
 rw [rwk, h]
 simp only
 rw [if_pos hm]
end Pg
set_option maxHeartbeats 8000000 in
set_option maxRecDepth 4000 in
theorem Read_ret (p : Value) (l : List UInt8) (w : World) (hl : RdL u8 w p l) (hO : Ord w) :
  Ret Tryz.prog 8 #[p] w fun v w' => ∃ (W H : Int) (vp : Value) (pix : List UInt8) (e : Int), v = .tuple #[imv W H vp, i64 e] ∧ M w Nn w' [Rg.sl u8 5 vp pix] ∧ RdiV (rdi l) W H pix e := by
 have hM := M.start w
 refine enter Tryz.func8 rfl (by kernel_rfl) Tryz.ntmps8 rfl $ Kb $ E.allocM (z := .agg #[.int .i64 0, .int .i64 0, .slice none 0 0]) (cs := [.int .i64 0, .int .i64 0, .slice none 0 0]) hM (by kernel_rfl) rfl rfl ?_
 intro b2 w0 hM
 refine Kd rfl $ Km rfl $ E.call rfl rfl (Chunks_ret p l _ (hM.arg0 hl)) ?_
 rintro _ w1 ⟨vo, hs, cs, e, rfl, m, hv⟩
 have hM := hM.call m
 refine Km rfl $ E.ext rfl rfl rfl $ E.ext rfl rfl rfl $ Kn rfl $ Kc rfl $ C.seq $ Kb $ Km rfl $ Kp rfl $ Ka $ C.cond' rfl (fun hC0 => ?_) (fun hC0 => ?_)
 ·
  obtain ⟨hne, hrd, _⟩ := hv.resolve_left (fun h => hC0 h.1)
  refine Kb $ E.buildC (cs := [_, _, _]) [.int .i64 0, .int .i64 0, .slice none 0 0] [] rfl rfl (by kernel_rfl) rfl $ Km rfl $ E.storeAM 0 hM rfl rfl rfl (by kernel_rfl) rfl (ones rfl $ ones rfl $ ones rfl $ ones_nil) ?_
  intro w2 hM
  refine Kc rfl $ C.ret $ X.retT $ retAT rfl rfl rfl U24 rfl (by exact hM.blk 0 rfl) (by kernel_rfl) ?_
  exact ⟨0, 0, nilS, [], e, rfl, (hM.pick [] (by decide)).nil u8 5, .inr ⟨hne, by rw [rdi_e hrd], rfl, rfl, rfl⟩⟩
 obtain ⟨rfl, hrd⟩ := hv.resolve_right (fun h => hC0 h.1)
 obtain ⟨hg, hl1, hl2, hl3⟩ := rdf_ok hrd
 have hg4 := gd_let hg
 have hlen : 8 + csz cs ≤ 4194304 := by
  have := congrArg List.length hl2
  rw [List.length_append, cks_len (fun x hx => (hg4 x hx).1), show sig.length = 8 from rfl] at this; omega
 obtain ⟨c, r, rfl⟩ : ∃ c r, cs = c :: r := by
  cases cs with
  | nil => exact hg.elim
  | cons c r => exact ⟨c, r, rfl⟩
 obtain ⟨h0, hr, rfl⟩ : ∃ h0 hr, hs = h0 :: hr := by
  have := (hM.cks 1 2 rfl rfl).len
  cases hs with
  | nil => simp at this
  | cons h0 hr => exact ⟨h0, hr, rfl⟩
 have hdl := dtc_le r
 rw [csz_cons] at hlen
 rw [List.length_cons] at hl1
 refine Kk $ Kb $ Km rfl $ E.call rfl rfl (arranged2_ret vo h0 hr c r _ (hM.cks 1 2 rfl rfl) (fun x hx => (hg4 x (by simp [hx])).1) (by omega) (by omega)) ?_
 rintro _ w3 ⟨vh, vd, b, out1, e1, rfl, m, ha⟩
 have hM := hM.call m
 refine Km rfl $ E.ext rfl rfl rfl $ E.ext rfl rfl rfl $ E.ext rfl rfl rfl $ E.ext rfl rfl rfl $ Kn rfl $ Kn rfl $ Kn rfl $ Kc rfl $ C.seq $ Kb $ Km rfl $ Kp rfl $ Ka $ C.cond' rfl (fun hC1 => ?_) (fun hC1 => ?_)
 ·
  obtain ⟨hbad, rfl⟩ := ha.resolve_left (fun h => hC1 h.2.1)
  refine Kb $ E.buildC (cs := [_, _, _]) [.int .i64 0, .int .i64 0, .slice none 0 0] [] rfl rfl (by kernel_rfl) rfl $ Km rfl $ E.storeAM 0 hM rfl rfl rfl (by kernel_rfl) rfl (ones rfl $ ones rfl $ ones rfl $ ones_nil) ?_
  intro w4 hM
  refine Kc rfl $ C.ret $ X.retT $ retAT rfl rfl rfl U24 rfl (by exact hM.blk 0 rfl) (by kernel_rfl) ?_
  exact ⟨0, 0, nilS, [], 9, rfl, (hM.pick [] (by decide)).nil u8 5, .inr ⟨by decide, by rw [rdi_f hrd hbad], rfl, rfl, rfl⟩⟩
 obtain ⟨hgood, rfl, rfl, rfl, rfl⟩ := ha.resolve_right (fun h => hC1 (by rw [h.2]; decide))
 have hc13 := hgood.2.1
 have himg := rdi_i hrd hgood
 obtain ⟨wd, hwd⟩ : ∃ n, n = Jn.dec4 c.2 := ⟨_, rfl⟩
 obtain ⟨ht, hht⟩ : ∃ n, n = Jn.dec4 (c.2.drop 4) := ⟨_, rfl⟩
 obtain ⟨d, hd⟩ : ∃ n, n = at_ c.2 8 := ⟨_, rfl⟩
 rw [img, ← hwd, ← hht, ← hd] at himg
 have hwl := Jn.dec4_lt c.2
 rw [← hwd] at hwl
 have hhl := Jn.dec4_lt (c.2.drop 4)
 rw [← hht] at hhl
 have hdl2 := at_le c.2 8
 rw [← hd] at hdl2
 refine Kk $ C.seq $ C.drawn (by kernel_rfl) (by kernel_rfl) $ Q.mv rfl rfl $ Q.call (v := i64 (wd : Int)) rfl rfl (fun w' hw' => by rw [hwd]; exact gnumber_ret _ _ w' (((hM.cks 1 2 rfl rfl).hd).ext hw') (by show 4 ≤ c.2.length; omega)) $ Q.mv rfl rfl $ Q.slcP (k' := .i64) 4 c.2.length rfl (.inl rfl) (.inr ⟨rfl, rfl⟩) ((hM.cks 1 2 rfl rfl).hd) U22 (by kernel_rfl) (by omega) (Nat.le_refl _) rfl ?_
 have r41 := RdL.partV (l := c.2) ((hM.cks 1 2 rfl rfl).hd) (a := 4) (b := c.2.length) (by omega) (by omega)
 rw [cut_all] at r41
 refine Q.call (v := i64 (ht : Int)) rfl rfl (fun w' hw' => by rw [hht]; exact gnumber_ret _ _ w' (r41.ext hw') (by rw [List.length_drop]; omega)) $ Q.mv rfl rfl $ Q.idx1 (k := 8) rfl rfl (((hM.cks 1 2 rfl rfl).hd)) rfl (by omega) U22 (by kernel_rfl) rfl $ Q.load rfl U5 rfl ((((hM.cks 1 2 rfl rfl).hd)).cellA rfl (by omega)) rfl ?_
 rw [u8c, at_get (l := c.2) (i := 8) (by omega), ← hd]
 refine Q.conv rfl U5 U3 (IntWalk.i64_in _ (by omega)) rfl $ Q.asg rfl rfl $ Q.asg rfl rfl $ Q.asg rfl rfl $ Q.nil $ fun w5 hx5 => ?_
 have hM := hM.ext hx5
 refine X.next $ C.seq $ C.chainE [(2, _), (6, _), (7, _), (8, _), (9, _), (10, _), (11, _)] rfl [(66, .bool (decide (wd < 1 ∨ 4096 < wd ∨ ht < 1 ∨ 4096 < ht ∨ 4194304 < wd * ht)))] ?_ ?_
 ·
  refine C.region $ Km rfl $ Kp rfl $ Km rfl $ E.split 49 rfl (fun g49 => ?_) (fun g49 => ?_)
  ·
   try simp only [Ya, Yb, Yc, Yd, Ye, Yf] at g49
   refine Kq rfl $ Kq rfl $ Kr rfl $ Km rfl $ Kq rfl $ Kq rfl $ Kr rfl $ Km rfl $ Kq rfl $ Kq rfl $ Kr rfl $ Km rfl $ Kq rfl $ Kq rfl $ Kq rfl $ Kq rfl $ Kr rfl $ E.nil $ X.join0 (Sub.cons (look_eq rfl (congrArg Value.bool (by exact (decide_eq_true (p := wd < 1 ∨ 4096 < wd ∨ ht < 1 ∨ 4096 < ht ∨ 4194304 < wd * ht) (by omega)).symm))) $ Sub.nil _) rfl rfl
  try simp only [Ya, Yb, Yc, Yd, Ye, Yf] at g49
  refine Ko rfl $ Km rfl $ Ko rfl $ Kp rfl $ Kr rfl $ Km rfl $ E.split 53 rfl (fun g53 => ?_) (fun g53 => ?_)
  ·
   try simp only [Ya, Yb, Yc, Yd, Ye, Yf] at g53
   refine Kq rfl $ Kq rfl $ Kr rfl $ Km rfl $ Kq rfl $ Kq rfl $ Kr rfl $ Km rfl $ Kq rfl $ Kq rfl $ Kq rfl $ Kq rfl $ Kr rfl $ E.nil $ X.join0 (Sub.cons (look_eq rfl (congrArg Value.bool (by exact (decide_eq_true (p := wd < 1 ∨ 4096 < wd ∨ ht < 1 ∨ 4096 < ht ∨ 4194304 < wd * ht) (by omega)).symm))) $ Sub.nil _) rfl rfl
  try simp only [Ya, Yb, Yc, Yd, Ye, Yf] at g53
  refine Ko rfl $ Km rfl $ Ko rfl $ Kp rfl $ Kr rfl $ Km rfl $ E.split 57 rfl (fun g57 => ?_) (fun g57 => ?_)
  ·
   try simp only [Ya, Yb, Yc, Yd, Ye, Yf] at g57
   refine Kq rfl $ Kq rfl $ Kr rfl $ Km rfl $ Kq rfl $ Kq rfl $ Kq rfl $ Kq rfl $ Kr rfl $ E.nil $ X.join0 (Sub.cons (look_eq rfl (congrArg Value.bool (by exact (decide_eq_true (p := wd < 1 ∨ 4096 < wd ∨ ht < 1 ∨ 4096 < ht ∨ 4194304 < wd * ht) (by omega)).symm))) $ Sub.nil _) rfl rfl
  try simp only [Ya, Yb, Yc, Yd, Ye, Yf] at g57
  refine Ko rfl $ Km rfl $ Ko rfl $ Kp rfl $ Kr rfl $ Km rfl $ E.split 61 rfl (fun g61 => ?_) (fun g61 => ?_)
  ·
   try simp only [Ya, Yb, Yc, Yd, Ye, Yf] at g61
   refine Kq rfl $ Kq rfl $ Kq rfl $ Kq rfl $ Kr rfl $ E.nil $ X.join0 (Sub.cons (look_eq rfl (congrArg Value.bool (by exact (decide_eq_true (p := wd < 1 ∨ 4096 < wd ∨ ht < 1 ∨ 4096 < ht ∨ 4194304 < wd * ht) (by omega)).symm))) $ Sub.nil _) rfl rfl
  try simp only [Ya, Yb, Yc, Yd, Ye, Yf] at g61
  have hwh : wd * ht ≤ 4096 * 4096 := Nat.mul_le_mul (by omega) (by omega)
  refine Ko rfl $ Km rfl $ Ko rfl $ Km rfl $ Ko rfl $ E.mulN (a := wd) (b := ht) rfl rfl (by omega) rfl $ Ko rfl $ Kp rfl $ Kr rfl $ E.nil $ X.join0 (Sub.cons (look_eq rfl (congrArg Value.bool (by exact decide_eq_decide.2 ⟨fun h => by omega, fun h => by omega⟩))) $ Sub.nil _) rfl rfl
 refine C.cond' rfl (fun hC2 => ?_) (fun hC2 => ?_)
 ·
  refine Kb $ E.buildC (cs := [_, _, _]) [.int .i64 0, .int .i64 0, .slice none 0 0] [] rfl rfl (by kernel_rfl) rfl $ E.storeAM 0 hM rfl rfl rfl (by kernel_rfl) rfl (ones rfl $ ones rfl $ ones rfl $ ones_nil) ?_
  intro w6 hM
  refine Kc rfl $ C.ret $ X.retT $ retAT rfl rfl rfl U24 rfl (by exact hM.blk 0 rfl) (by kernel_rfl) ?_
  exact ⟨0, 0, nilS, [], 23, rfl, (hM.pick [] (by decide)).nil u8 5, .inr ⟨by decide, by rw [himg, if_pos hC2], rfl, rfl, rfl⟩⟩
 refine Kk $ C.seq $ C.chainE [(2, _), (6, _), (7, _), (8, _), (9, _), (10, _), (11, _)] rfl [(87, .bool (decide ((d ≠ 1 ∧ d ≠ 2 ∧ d ≠ 4 ∧ d ≠ 8) ∨ at_ c.2 9 ≠ 0)))] ?_ ?_
 ·
  refine C.region $ Km rfl $ Kp rfl $ Km rfl $ E.split 70 rfl (fun g70 => ?_) (fun g70 => ?_)
  ·
   try simp only [Ya, Yb, Yc, Yd, Ye, Yf] at g70
   refine Ko rfl $ Km rfl $ Ko rfl $ Kp rfl $ Kr rfl $ Km rfl $ E.split 74 rfl (fun g74 => ?_) (fun g74 => ?_)
   ·
    try simp only [Ya, Yb, Yc, Yd, Ye, Yf] at g74
    refine Ko rfl $ Km rfl $ Ko rfl $ Kp rfl $ Kr rfl $ Km rfl $ E.split 78 rfl (fun g78 => ?_) (fun g78 => ?_)
    ·
     try simp only [Ya, Yb, Yc, Yd, Ye, Yf] at g78
     refine Ko rfl $ Km rfl $ Ko rfl $ Kp rfl $ Kr rfl $ Km rfl $ E.split 82 rfl (fun g82 => ?_) (fun g82 => ?_)
     ·
      try simp only [Ya, Yb, Yc, Yd, Ye, Yf] at g82
      refine Kq rfl $ Kq rfl $ Kq rfl $ Kq rfl $ Kr rfl $ E.nil $ X.join0 (Sub.cons (look_eq rfl (congrArg Value.bool (by exact (decide_eq_true (p := (d ≠ 1 ∧ d ≠ 2 ∧ d ≠ 4 ∧ d ≠ 8) ∨ at_ c.2 9 ≠ 0) (by omega)).symm))) $ Sub.nil _) rfl rfl
     try simp only [Ya, Yb, Yc, Yd, Ye, Yf] at g82
     refine Ko rfl $ Km rfl $ Ko rfl $ E.idx1 (k := 9) rfl rfl (((hM.cks 1 2 rfl rfl).hd)) rfl (by omega) U22 (by kernel_rfl) rfl $ Ko rfl $ E.load rfl U5 rfl ((((hM.cks 1 2 rfl rfl).hd)).cellA rfl (by omega)) rfl ?_
     rw [u8c, at_get (l := c.2) (i := 9) (by omega)]
     refine Ko rfl $ Kp rfl $ Kr rfl $ E.nil $ X.join0 (Sub.cons (look_eq rfl (congrArg Value.bool (by exact decide_eq_decide.2 ⟨fun h => by omega, fun h => by omega⟩))) $ Sub.nil _) rfl rfl
    try simp only [Ya, Yb, Yc, Yd, Ye, Yf] at g78
    refine Kq rfl $ Kq rfl $ Kr rfl $ Km rfl $ Ko rfl $ Km rfl $ Ko rfl $ E.idx1 (k := 9) rfl rfl (((hM.cks 1 2 rfl rfl).hd)) rfl (by omega) U22 (by kernel_rfl) rfl $ Ko rfl $ E.load rfl U5 rfl ((((hM.cks 1 2 rfl rfl).hd)).cellA rfl (by omega)) rfl ?_
    rw [u8c, at_get (l := c.2) (i := 9) (by omega)]
    refine Ko rfl $ Kp rfl $ Kr rfl $ E.nil $ X.join0 (Sub.cons (look_eq rfl (congrArg Value.bool (by exact decide_eq_decide.2 ⟨fun h => by omega, fun h => by omega⟩))) $ Sub.nil _) rfl rfl
   try simp only [Ya, Yb, Yc, Yd, Ye, Yf] at g74
   refine Kq rfl $ Kq rfl $ Kr rfl $ Km rfl $ Kq rfl $ Kq rfl $ Kr rfl $ Km rfl $ Ko rfl $ Km rfl $ Ko rfl $ E.idx1 (k := 9) rfl rfl (((hM.cks 1 2 rfl rfl).hd)) rfl (by omega) U22 (by kernel_rfl) rfl $ Ko rfl $ E.load rfl U5 rfl ((((hM.cks 1 2 rfl rfl).hd)).cellA rfl (by omega)) rfl ?_
   rw [u8c, at_get (l := c.2) (i := 9) (by omega)]
   refine Ko rfl $ Kp rfl $ Kr rfl $ E.nil $ X.join0 (Sub.cons (look_eq rfl (congrArg Value.bool (by exact decide_eq_decide.2 ⟨fun h => by omega, fun h => by omega⟩))) $ Sub.nil _) rfl rfl
  try simp only [Ya, Yb, Yc, Yd, Ye, Yf] at g70
  refine Kq rfl $ Kq rfl $ Kr rfl $ Km rfl $ Kq rfl $ Kq rfl $ Kr rfl $ Km rfl $ Kq rfl $ Kq rfl $ Kr rfl $ Km rfl $ Ko rfl $ Km rfl $ Ko rfl $ E.idx1 (k := 9) rfl rfl (((hM.cks 1 2 rfl rfl).hd)) rfl (by omega) U22 (by kernel_rfl) rfl $ Ko rfl $ E.load rfl U5 rfl ((((hM.cks 1 2 rfl rfl).hd)).cellA rfl (by omega)) rfl ?_
  rw [u8c, at_get (l := c.2) (i := 9) (by omega)]
  refine Ko rfl $ Kp rfl $ Kr rfl $ E.nil $ X.join0 (Sub.cons (look_eq rfl (congrArg Value.bool (by exact decide_eq_decide.2 ⟨fun h => by omega, fun h => by omega⟩))) $ Sub.nil _) rfl rfl
 refine C.cond' rfl (fun hC3 => ?_) (fun hC3 => ?_)
 ·
  refine Kb $ E.buildC (cs := [_, _, _]) [.int .i64 0, .int .i64 0, .slice none 0 0] [] rfl rfl (by kernel_rfl) rfl $ E.storeAM 0 hM rfl rfl rfl (by kernel_rfl) rfl (ones rfl $ ones rfl $ ones rfl $ ones_nil) ?_
  intro w7 hM
  refine Kc rfl $ C.ret $ X.retT $ retAT rfl rfl rfl U24 rfl (by exact hM.blk 0 rfl) (by kernel_rfl) ?_
  exact ⟨0, 0, nilS, [], 9, rfl, (hM.pick [] (by decide)).nil u8 5, .inr ⟨by decide, by rw [himg, if_neg hC2, if_pos hC3], rfl, rfl, rfl⟩⟩
 refine Kk $ C.seq $ C.chainE [(2, _), (7, _), (8, _), (9, _), (10, _), (11, _)] rfl [(104, .bool (decide (at_ c.2 10 ≠ 0 ∨ at_ c.2 11 ≠ 0 ∨ at_ c.2 12 ≠ 0)))] ?_ ?_
 ·
  refine C.region $ Km rfl $ E.get (k := 10) rfl rfl ((hM.cks 1 2 rfl rfl).hd) rfl (by show 10 < c.2.length; omega) U22 (by kernel_rfl) U5 rfl rfl rfl ?_
  rw [u8c, at_get (l := c.2) (i := 10) (by omega)]
  refine Kp rfl $ Km rfl $ E.split 93 rfl (fun g93 => ?_) (fun g93 => ?_)
  ·
   try simp only [Ya, Yb, Yc, Yd, Ye, Yf] at g93
   refine Kq rfl $ Kq rfl $ Kq rfl $ Kq rfl $ Kr rfl $ Km rfl $ Kq rfl $ Kq rfl $ Kq rfl $ Kq rfl $ Kr rfl $ E.nil $ X.join0 (Sub.cons (look_eq rfl (congrArg Value.bool (by exact (decide_eq_true (p := at_ c.2 10 ≠ 0 ∨ at_ c.2 11 ≠ 0 ∨ at_ c.2 12 ≠ 0) (by omega)).symm))) $ Sub.nil _) rfl rfl
  try simp only [Ya, Yb, Yc, Yd, Ye, Yf] at g93
  refine Ko rfl $ Km rfl $ Ko rfl $ E.idx1 (k := 11) rfl rfl (((hM.cks 1 2 rfl rfl).hd)) rfl (by omega) U22 (by kernel_rfl) rfl $ Ko rfl $ E.load rfl U5 rfl ((((hM.cks 1 2 rfl rfl).hd)).cellA rfl (by omega)) rfl ?_
  rw [u8c, at_get (l := c.2) (i := 11) (by omega)]
  refine Ko rfl $ Kp rfl $ Kr rfl $ Km rfl $ E.split 99 rfl (fun g99 => ?_) (fun g99 => ?_)
  ·
   try simp only [Ya, Yb, Yc, Yd, Ye, Yf] at g99
   refine Kq rfl $ Kq rfl $ Kq rfl $ Kq rfl $ Kr rfl $ E.nil $ X.join0 (Sub.cons (look_eq rfl (congrArg Value.bool (by exact (decide_eq_true (p := at_ c.2 10 ≠ 0 ∨ at_ c.2 11 ≠ 0 ∨ at_ c.2 12 ≠ 0) (by omega)).symm))) $ Sub.nil _) rfl rfl
  try simp only [Ya, Yb, Yc, Yd, Ye, Yf] at g99
  refine Ko rfl $ Km rfl $ Ko rfl $ E.idx1 (k := 12) rfl rfl (((hM.cks 1 2 rfl rfl).hd)) rfl (by omega) U22 (by kernel_rfl) rfl $ Ko rfl $ E.load rfl U5 rfl ((((hM.cks 1 2 rfl rfl).hd)).cellA rfl (by omega)) rfl ?_
  rw [u8c, at_get (l := c.2) (i := 12) (by omega)]
  refine Ko rfl $ Kp rfl $ Kr rfl $ E.nil $ X.join0 (Sub.cons (look_eq rfl (congrArg Value.bool (by exact decide_eq_decide.2 ⟨fun h => by omega, fun h => by omega⟩))) $ Sub.nil _) rfl rfl
 refine C.cond' rfl (fun hC4 => ?_) (fun hC4 => ?_)
 ·
  refine Kb $ E.buildC (cs := [_, _, _]) [.int .i64 0, .int .i64 0, .slice none 0 0] [] rfl rfl (by kernel_rfl) rfl $ E.storeAM 0 hM rfl rfl rfl (by kernel_rfl) rfl (ones rfl $ ones rfl $ ones rfl $ ones_nil) ?_
  intro w8 hM
  refine Kc rfl $ C.ret $ X.retT $ retAT rfl rfl rfl U24 rfl (by exact hM.blk 0 rfl) (by kernel_rfl) ?_
  exact ⟨0, 0, nilS, [], 37, rfl, (hM.pick [] (by decide)).nil u8 5, .inr ⟨by decide, by rw [himg, if_neg hC2, if_neg hC3, if_pos hC4], rfl, rfl, rfl⟩⟩
 refine Kk $ C.seq $ Kb $ Km rfl $ E.not rfl rfl $ Ka $ C.cond rfl (fun hC5 => ?_) (fun hC5 => ?_)
 ·
  have hany : anyD r = false := by simpa using hC5
  refine Kb $ E.buildC (cs := [_, _, _]) [.int .i64 0, .int .i64 0, .slice none 0 0] [] rfl rfl (by kernel_rfl) rfl $ E.storeAM 0 hM rfl rfl rfl (by kernel_rfl) rfl (ones rfl $ ones rfl $ ones rfl $ ones_nil) ?_
  intro w9 hM
  refine Kc rfl $ C.ret $ X.retT $ retAT rfl rfl rfl U24 rfl (by exact hM.blk 0 rfl) (by kernel_rfl) ?_
  exact ⟨0, 0, nilS, [], 33, rfl, (hM.pick [] (by decide)).nil u8 5, .inr ⟨by decide, by rw [himg, if_neg hC2, if_neg hC3, if_neg hC4, if_pos hany], rfl, rfl, rfl⟩⟩
 have hany : ¬ anyD r = false := by simpa using hC5
 rw [if_neg hC2, if_neg hC3, if_neg hC4, if_neg hany] at himg
 have hd4 : d = 1 ∨ d = 2 ∨ d = 4 ∨ d = 8 := by omega
 obtain ⟨q, hq⟩ : ∃ q, q = wd * d := ⟨_, rfl⟩
 have hq2 : wd * d ≤ 4096 * 8 := Nat.mul_le_mul (by omega) (by omega)
 obtain ⟨sz, hsz⟩ : ∃ s, s = wid wd d := ⟨_, rfl⟩
 have hsz2 : sz = 1 + (q + 7) / 8 := by rw [hsz, hq]; rfl
 rw [← hsz] at himg
 have hhs : ht * sz ≤ 4096 * 4097 := Nat.mul_le_mul (by omega) (by omega)
 have hwh : wd * ht ≤ 4096 * 4096 := Nat.mul_le_mul (by omega) (by omega)
 refine Kk $ Kb $ Kf rfl $ E.mulN (a := wd) (b := d) rfl rfl (by omega) rfl ?_
 rw [← hq]
 refine E.addN (a := q) (b := 7) rfl rfl (by omega) rfl $ E.quo (c := ((q + 7) / 8 : Nat)) rfl rfl (by omega) ((IntWalk.i64_quo _ _ (by omega)).trans (by omega)) rfl $ E.addN (a := 1) (b := (q + 7) / 8) rfl rfl (by omega) rfl ?_
 rw [← hsz2]
 refine Kd rfl $ Kf rfl $ Km rfl $ E.mulN (a := ht) (b := sz) rfl rfl (by omega) rfl $ E.call rfl rfl (Unwrap_ret vd (dtc r) ((ht * sz : Nat) : Int) _ (hM.sl 3 rfl) (hM.ord0 hO)) ?_
 rintro _ w10 ⟨v120, out, e2, rfl, m, hu⟩
 have hM := hM.call m
 refine Km rfl $ E.ext rfl rfl rfl $ E.ext rfl rfl rfl $ Kn rfl $ Kc rfl $ C.seq $ Kb $ Km rfl $ Kp rfl $ Ka $ C.cond' rfl (fun hC6 => ?_) (fun hC6 => ?_)
 ·
  obtain ⟨hne, hu2, _⟩ := hu.resolve_left (fun h => hC6 h.1)
  refine Kb $ E.buildC (cs := [_, _, _]) [.int .i64 0, .int .i64 0, .slice none 0 0] [] rfl rfl (by kernel_rfl) rfl $ Km rfl $ E.storeAM 0 hM rfl rfl rfl (by kernel_rfl) rfl (ones rfl $ ones rfl $ ones rfl $ ones_nil) ?_
  intro w11 hM
  refine Kc rfl $ C.ret $ X.retT $ retAT rfl rfl rfl U24 rfl (by exact hM.blk 0 rfl) (by kernel_rfl) ?_
  exact ⟨0, 0, nilS, [], e2, rfl, (hM.pick [] (by decide)).nil u8 5, .inr ⟨hne, by rw [himg, hu2], rfl, rfl, rfl⟩⟩
 obtain ⟨_, hu2⟩ := hu.resolve_right (fun h => hC6 h.1)
 rw [hu2] at himg
 simp only at himg
 refine Kk $ C.seq $ Kb $ Km rfl $ E.lenv rfl (Rd.shape (hM.sl 4 rfl)) U22 rfl $ Kf rfl $ E.mulN (a := ht) (b := sz) rfl rfl (by omega) rfl $ Kp rfl $ Ka $ C.cond' rfl (fun hC7 => ?_) (fun hC7 => ?_)
 ·
  refine Kb $ E.buildC (cs := [_, _, _]) [.int .i64 0, .int .i64 0, .slice none 0 0] [] rfl rfl (by kernel_rfl) rfl $ E.storeAM 0 hM rfl rfl rfl (by kernel_rfl) rfl (ones rfl $ ones rfl $ ones rfl $ ones_nil) ?_
  intro w12 hM
  refine Kc rfl $ C.ret $ X.retT $ retAT rfl rfl rfl U24 rfl (by exact hM.blk 0 rfl) (by kernel_rfl) ?_
  exact ⟨0, 0, nilS, [], 10, rfl, (hM.pick [] (by decide)).nil u8 5, .inr ⟨by decide, by rw [himg, if_pos (by omega)], rfl, rfl, rfl⟩⟩
 rw [if_neg (show ¬ out.length < ht * sz by omega)] at himg
 refine Kk $ Kb $ Kf rfl $ Kf rfl $ E.mulN (a := wd) (b := ht) rfl rfl (by omega) rfl $ E.make0M (by_ := 1) (enc := u8) 0 hM rfl (n := wd * ht) rfl U22 (by kernel_rfl) rfl (by omega) (by omega) rfl ?_
 intro v139 w13 hM
 obtain ⟨x139, rfl⟩ := own_head (hM.own 5 rfl)
 refine E.buildC (cs := [_, _, _]) [.int .i64 0, .int .i64 0, .slice none 0 0] [0, 1, 2] rfl rfl (by kernel_rfl) rfl $ E.allocM (z := .agg #[.int .i64 0, .int .i64 0, .slice none 0 0]) (cs := [.int .i64 0, .int .i64 0, .slice none 0 0]) hM (by kernel_rfl) rfl rfl ?_
 intro b13 w14 hM
 refine E.storeAM 6 hM rfl rfl rfl (by kernel_rfl) rfl (ones rfl $ ones rfl $ ones (hM.sl 5 rfl).one $ ones_nil) ?_
 intro w15 hM
 refine Ke $ Kc rfl $ C.seq $ Kb $ Kf rfl $ Ka $ C.block $ ?_
 have hM := (hM.pick [0, 4, 6, 5] (by decide)).nil u8 5
 try dsimp only [List.nil_append, List.cons_append] at hM
 refine C.loop5 [(2, _), (7, _), (9, _), (11, _), (12, _), (13, _), (141, _)] rfl (fun (y : Nat) (vq : Value) (vx : Value) (prior : (List UInt8)) (pix : (List UInt8)) => [(14, vq), (142, i64 y)]) (fun (y : Nat) (vq : Value) (vx : Value) (prior : (List UInt8)) (pix : (List UInt8)) w' => M w (Nn) w' [Rg.blk b2 24 [i64 0, i64 0, nilS], Rg.sl u8 5 v120 out, Rg.blk b13 24 [i64 (wd : Int), i64 (ht : Int), vx], Rg.sl u8 5 vx pix, Rg.sl u8 5 vq prior] ∧ y ≤ ht ∧ rwk out sz wd d y = .ok (prior, pix) ∧ pix.length = y * wd ∧ (prior = [] ∨ prior.length = sz - 1)) (fun (y : Nat) (vq : Value) (vx : Value) (prior : (List UInt8)) (pix : (List UInt8)) => ht - y) 0 nilS (slv x139) [] [] ?_ ?_ ?_
 · exact Sub.cons rfl $ S1 rfl
 · exact ⟨hM, Nat.zero_le _, rfl, by simp, .inl rfl⟩
 rintro y vq vx prior pix w16 ⟨hM, hy, hR, hpx, hpr⟩
 refine Kb $ Kp rfl $ Ka $ C.seq $ C.cond' rfl (fun hC8 => ?_) (fun hC8 => ?_)
 ·
  have hy' : y < ht := by omega
  have hm1 : (y + 1) * sz ≤ ht * sz := Nat.mul_le_mul_right _ (by omega)
  have hm2 : (y + 1) * sz = y * sz + sz := by rw [Nat.add_mul, Nat.one_mul]
  have hm3 : y * wd ≤ ht * wd := Nat.mul_le_mul_right _ hy
  rw [Nat.mul_comm ht wd] at hm3
  have hcl : (cutL (y * sz + 1) ((y + 1) * sz) out).length = sz - 1 := by rw [cut_len2 (by omega)]; omega
  have hal := at_le out (y * sz)
  refine Kk $ C.seq $ C.block $ Kb $ Km rfl $ Kc rfl $ C.seq $ C.heldE (by kernel_rfl) fun wh17 hwh17 _ => ?_
  have hS := hwh17
  have hM0 := hM
  have hM := M.ofExt hwh17
  refine Kt 0 rfl (by kernel_rfl) hS (fun w' hS => by have hM := hM0.ext hS; exact Y.mv rfl) rfl $ Kt 1 rfl (by kernel_rfl) hS (fun w' hS => by have hM := hM0.ext hS; exact Y.mv rfl) rfl $ Kt 2 rfl (by kernel_rfl) hS (fun w' hS => by have hM := hM0.ext hS; exact Y.mv rfl) rfl $ Kt 3 rfl (by kernel_rfl) hS (fun w' hS => by have hM := hM0.ext hS; exact Y.mulN (a := y) (b := sz) rfl rfl (by omega)) rfl $ Ku 4 rfl (by kernel_rfl) hS (Y.idx1 (k := y * sz) rfl rfl ((hM0.ext hS).sl 1 rfl) rfl (by omega) U22 (by kernel_rfl)) (fun w' hS => by have hM := hM0.ext hS; exact Y.idx1 (k := y * sz) rfl rfl (hM.sl 1 rfl) rfl (by omega) U22 (by kernel_rfl)) rfl $ Kt 7 rfl (by kernel_rfl) hS (fun w' hS => by have hM := hM0.ext hS; exact Y.mv rfl) rfl $ Kt 8 rfl (by kernel_rfl) hS (fun w' hS => by have hM := hM0.ext hS; exact Y.mv rfl) rfl $ Kt 9 rfl (by kernel_rfl) hS (fun w' hS => by have hM := hM0.ext hS; exact Y.mv rfl) rfl $ Kt 10 rfl (by kernel_rfl) hS (fun w' hS => by have hM := hM0.ext hS; exact Y.mulN (a := y) (b := sz) rfl rfl (by omega)) rfl $ Kt 11 rfl (by kernel_rfl) hS (fun w' hS => by have hM := hM0.ext hS; exact Y.addN (a := y * sz) (b := 1) rfl rfl (by omega)) rfl ?_
  refine Kt 12 rfl (by kernel_rfl) hS (fun w' hS => by have hM := hM0.ext hS; exact Y.mv rfl) rfl $ Kt 13 rfl (by kernel_rfl) hS (fun w' hS => by have hM := hM0.ext hS; exact Y.addN (a := y) (b := 1) rfl rfl (by omega)) rfl $ Kt 14 rfl (by kernel_rfl) hS (fun w' hS => by have hM := hM0.ext hS; exact Y.mv rfl) rfl $ Kt 15 rfl (by kernel_rfl) hS (fun w' hS => by have hM := hM0.ext hS; exact Y.mulN (a := y + 1) (b := sz) rfl rfl (by omega)) rfl $ Ku 16 rfl (by kernel_rfl) hS (Y.slcP (y * sz + 1) ((y + 1) * sz) rfl (.inl rfl) (.inl rfl) ((hM0.ext hS).sl 1 rfl) U22 (by kernel_rfl) (by omega) (by omega)) (fun w' hS => by have hM := hM0.ext hS; exact Y.slcP (y * sz + 1) ((y + 1) * sz) rfl (.inl rfl) (.inl rfl) (hM.sl 1 rfl) U22 (by kernel_rfl) (by omega) (by omega)) rfl $ Kt 17 rfl (by kernel_rfl) hS (fun w' hS => by have hM := hM0.ext hS; exact Y.mv rfl) rfl $ H.only 5 rfl (by kernel_rfl) $ E.load rfl U5 rfl (RdL.cellA (l := out) (j := y * sz) ((hM0.ext hM.toExt).sl 1 rfl) rfl (by omega)) rfl ?_
  rw [u8c, at_get (show y * sz < out.length by omega)]
  have hS := hM.toExt
  refine H.back hS $ Ku 6 rfl (by kernel_rfl) hS (Y.conv rfl U5 U3 (IntWalk.i64_in _ (by omega))) (fun w' hS => by have hM := hM0.ext hS; exact Y.conv rfl U5 U3 (IntWalk.i64_in _ (by omega))) rfl $ H.only 18 rfl (by kernel_rfl) $ E.call rfl rfl (Unfilter_ret ((at_ out (y * sz)) : Int) _ vq (cutL (y * sz + 1) ((y + 1) * sz) out) prior _ ((RdL.partV (l := out) (a := y * sz + 1) (b := (y + 1) * sz) (hM0.sl 1 rfl) (by omega) (by omega)).ext hM.toExt) ((hM0.sl 4 rfl).ext hM.toExt) (by omega)) ?_
  rintro _ w17 ⟨v164, rfl, m⟩
  have hM := hM.call m
  have hS := hM.toExt
  refine H.back hS $ Kt 19 rfl (by kernel_rfl) hS (fun w' hS => by have hM := hM0.ext hS; exact Y.mv rfl) rfl $ Kt 20 rfl (by kernel_rfl) hS (fun w' hS => by have hM := hM0.ext hS; exact Y.ext rfl rfl) rfl $ Kt 21 rfl (by kernel_rfl) hS (fun w' hS => by have hM := hM0.ext hS; exact Y.ext rfl rfl) rfl $ Kt 22 rfl (by kernel_rfl) hS (fun w' hS => by have hM := hM0.ext hS; exact Y.asg rfl) rfl $ Kt 23 rfl (by kernel_rfl) hS (fun w' hS => by have hM := hM0.ext hS; exact Y.asg rfl) rfl $ H.done (by kernel_rfl) ?_
  have hM := hM0.call hM
  refine X.next $ C.seq $ Kb $ Km rfl $ Kp rfl $ Ka $ C.cond' rfl (fun hC9 => ?_) (fun hC9 => ?_)
  ·
   have hE : 4 < (at_ out (y * sz)) := Decidable.byContradiction fun h => hC9 (by rw [apE, if_neg (by omega), if_neg (fun k => by rcases hpr with h2 | h2; exact k.1 h2; exact k.2 (by rw [h2, hcl]))])
   have hE2 : apE ((at_ out (y * sz)) : Int) (cutL (y * sz + 1) ((y + 1) * sz) out) prior = 37 := by rw [apE, if_pos (by omega)]
   rw [hE2]
   refine Kb $ E.buildC (cs := [_, _, _]) [.int .i64 0, .int .i64 0, .slice none 0 0] [] rfl rfl (by kernel_rfl) rfl $ Km rfl $ E.storeAM 0 hM rfl rfl rfl (by kernel_rfl) rfl (ones rfl $ ones rfl $ ones rfl $ ones_nil) ?_
   intro w19 hM
   refine Kc rfl $ C.ret $ X.retT $ X.retB $ X.retT $ X.retT $ X.retB $ X.retT $ retAT rfl rfl rfl U24 rfl (by exact hM.blk 0 rfl) (by kernel_rfl) ?_
   exact ⟨0, 0, nilS, [], 37, rfl, (hM.pick [] (by decide)).nil u8 5, .inr ⟨by decide, by rw [himg, rwk_f hR hE (by omega)], rfl, rfl, rfl⟩⟩
  have hE : apE ((at_ out (y * sz)) : Int) (cutL (y * sz + 1) ((y + 1) * sz) out) prior = 0 := Decidable.byContradiction hC9
  have hm5 : ¬ 4 < (at_ out (y * sz)) := fun h => by
   rw [apE, if_pos (by omega)] at hE; cases hE
  have hO2 : apO unf ((at_ out (y * sz)) : Int) (cutL (y * sz + 1) ((y + 1) * sz) out) prior = unf (at_ out (y * sz)) (cutL (y * sz + 1) ((y + 1) * sz) out) prior := by rw [apO, if_pos hE, Int.toNat_natCast]
  rw [hO2] at hM
  have hul := unf_len (at_ out (y * sz)) (cutL (y * sz + 1) ((y + 1) * sz) out) prior
  refine Kk $ Kb $ E.fld (o := 2) (sz := 0) rfl U24 rfl rfl (by kernel_rfl) rfl $ E.load rfl U22 rfl (hM.bcell 2 rfl rfl) rfl $ Kf rfl $ Km rfl $ E.call rfl rfl (appendPixels_ret vx v164 pix (unf (at_ out (y * sz)) (cutL (y * sz + 1) ((y + 1) * sz) out) prior) wd d _ (hM.sep1 3 rfl) (hM.sl 5 rfl) (hM.offSl 5 3 (by decide) rfl rfl) hd4 (by omega) (by rw [← hq]; omega) (by omega)) ?_
  rintro v176 w19 m
  have hM := hM.call1 3 rfl (by simp) m
  refine E.fld (o := 2) (sz := 0) rfl U24 rfl rfl (by kernel_rfl) rfl $ E.storeM 2 hM rfl rfl rfl (by kernel_rfl) (hM.sl 3 rfl).one rfl ?_
  intro w21 hM
  refine Ka $ C.region $ Km rfl $ Kn rfl $ E.nil $ X.outN $ X.next $ C.region $ E.add rfl rfl (by omega) rfl $ Km rfl $ E.nil $ X.again5 (y + 1) v164 v176 _ _ (Sub.cons rfl $ S1 rfl) rfl ⟨hM.pick [0, 1, 2, 3, 5] (by decide), by omega, rwk_t hR hm5, by rw [List.length_append, vls_len, hpx, Nat.add_mul, Nat.one_mul], .inr (by rw [hul, hcl])⟩ (by omega)
 obtain rfl : y = ht := by omega
 rw [hR] at himg
 simp only at himg
 refine Kx $ Kb $ E.loadA (cs := [i64 (wd : Int), i64 (y : Int), vx]) rfl U24 rfl (by kernel_rfl) (hM.bat 2 rfl) rfl $ E.storeAM 0 hM rfl rfl rfl (by kernel_rfl) rfl (ones rfl $ ones rfl $ ones (hM.sl 3 rfl).one $ ones_nil) ?_
 intro w22 hM
 refine Kc rfl $ C.ret $ retAT rfl rfl rfl U24 rfl (by exact hM.blk 0 rfl) (by kernel_rfl) ?_
 exact ⟨_, _, vx, pix, 0, rfl, hM.pick [3] (by decide), .inl ⟨wd, y, rfl, rfl, rfl, himg⟩⟩
end Go.Proofs.YtajklleiifhipaaGreatDoor
namespace Go.Proofs.YtajklleiifhipaaGreatDoor
open Go.RowKit Sym
open Pg
theorem Sym.E.mkFM {α : Type} {enc : α → List Value} {sz : Nat} {P : Program} {ops : Array Oper} {Q : Exit → Act → World → Prop} {s : St} {env : Env} {w0 w : World} {S : Nat → Prop} {rs : List Rg} {rest : List Oper} {d : Nat} {ty : TypeId} {pos : String} {aft : Array Edge} {t e : TypeId} {n : Nat} {xs : List (Nat × Operand)} {vs : List (Nat × Value)} (l : List α) (hM : M w0 S w rs) (hx : evp env xs = some vs) (hb : ∀ w, (Instr.buildSlice t n vs.toArray).run P w = .ok (.slice (some ⟨w.heap.size, 0, none⟩) n n) (w.alloc (.cells (l.flatMap enc).toArray e))) (hn : l.length = n) (hs : n ≤ 1000000) (hsz : ∀ a ∈ l, (enc a).length = sz)
  (hd : Nat.blt d s.n = true) (h : ∀ v w', M w0 S w' (rs ++ [Rg.slF enc sz e v l]) → wpE P ops Q s rest ((d, v) :: env) w') : wpE P ops Q s (⟨some d, .buildSlice t n xs.toArray, ty, pos, aft, none⟩ :: rest) env w := by
 subst hn
 have hfl : (l.flatMap enc).length = l.length * sz := by
  clear hb h hs
  induction l with
  | nil => simp
  | cons a l ih => rw [List.flatMap_cons, List.length_append, hsz a (by simp), ih (fun b hb => hsz b (by simp [hb])), List.length_cons, Nat.add_mul, Nat.one_mul, Nat.add_comm]
 refine E.buildS hx hb hd (h _ _ (hM.new (Ext.new w _) (r := Rg.slF enc sz e _ l) ⟨hsz, hfl, .inr ⟨w.heap.size, l.length, (l.flatMap enc).toArray, rfl, Nat.zero_le _, heap_alloc_new w _, Nat.le_refl _, by unfold maxLen; omega, by simpa using hfl, by simp [List.take_of_length_le, hfl]⟩⟩ (fun k hk => by cases hk; exact Nat.le_refl _)))
theorem dep_8 {pix : List UInt8} {i : Nat} (hi : i < pix.length) (h : (pix[i]).toNat ≠ 0 ∧ (pix[i]).toNat ≠ 255) : dep pix = 8 := by
 unfold dep
 rw [if_neg]
 intro k
 rcases k _ (List.getElem_mem hi) with e | e
 · exact h.1 (by rw [e]; rfl)
 exact h.2 (by rw [e]; rfl)
theorem dep_1 {pix : List UInt8} (h : ∀ x ∈ pix, x = 0 ∨ x = 255) : dep pix = 1 := by unfold dep; rw [if_pos h]
theorem pix_ok {x : UInt8} (h : ¬ (x.toNat ≠ 0 ∧ x.toNat ≠ 255)) : x = 0 ∨ x = 255 := by
 by_cases e : x.toNat = 0
 · exact .inl (UInt8.toNat_inj.1 e)
 exact .inr (UInt8.toNat_inj.1 (Decidable.byContradiction fun k => h ⟨e, k⟩))
theorem bag3 {w : World} {x y z : Hd} {a b c : List UInt8} (h1 : RdL u8 w (slv x) a) (h2 : RdL u8 w (slv y) b) (h3 : RdL u8 w (slv z) c) : Bag w [x, y, z] [a, b, c] := ⟨rfl, fun i h l hh hl => by
 match i with
 | 0 => simp at hh hl; subst hh hl; exact h1
 | 1 => simp at hh hl; subst hh hl; exact h2
 | 2 => simp at hh hl; subst hh hl; exact h3
 | i + 3 => simp at hh⟩
theorem Wrap2_ret (p : Value) (l : List UInt8) (w : World) (hp : RdL u8 w p l) (hl : l.length ≤ 32768) (hO : Ord w) :
  Ret Tryz.prog 18 #[p, i64 2] w fun v w' => ∃ vo, v = .tuple #[vo, i64 0] ∧ M w Nn w' [Rg.sl u8 5 vo (Df.wrv l 2)] :=
 (Wrap_ret p l 2 w hp hl hO).mono fun v w' ⟨vo, h, m⟩ => ⟨vo, by rw [h, if_neg (by omega)], m⟩
theorem rdl_nil {w : World} : RdL u8 w (slv (none, 0, 0)) [] := by
 exact (OwnL.nil u8 w 0 0).rd
set_option maxHeartbeats 4000000 in
set_option maxRecDepth 4000 in
theorem Write_ret (W H : Int) (vp : Value) (pix : List UInt8) (w : World) (hp : RdL u8 w vp pix) (hsm : pix.length ≤ 3000) (hO : Ord w) :
  Ret Tryz.prog 6 #[imv W H vp] w fun v w' => ∃ (vo : Value) (out : List UInt8) (e : Int), v = .tuple #[vo, i64 e] ∧ M w Nn w' [Rg.sl u8 5 vo out] ∧ ((vld W H pix.length ∧ e = 0 ∧ out = wri W.toNat H.toNat pix) ∨ (¬ vld W H pix.length ∧ e = 1 ∧ out = [])) := by
 have hM := M.start w
 refine enter Tryz.func6 rfl (by kernel_rfl) Tryz.ntmps6 rfl $ Kb $ E.boxM hM rfl rfl rfl ?_
 intro b1 w0 hM
 refine Kn rfl $ Kc rfl $ C.seq $ Kb $ E.loadA (cs := [i64 W, i64 H, vp]) rfl U24 rfl (by kernel_rfl) (hM.bat 0 rfl) rfl $ E.call rfl rfl (CheckImage_ret W H vp pix _ (hM.arg0 hp)) ?_
 rintro _ w1 ⟨rfl, x1⟩
 have hM := hM.ext x1
 refine Kd rfl $ Km rfl $ Kp rfl $ Ka $ C.cond' rfl (fun hC0 => ?_) (fun hC0 => ?_)
 ·
  have hnv : ¬ vld W H pix.length := fun h => hC0 (by rw [if_pos h])
  refine Kb $ Km rfl $ Kn rfl $ Kc rfl $ C.ret $ X.retT $ ret2 rfl rfl rfl ?_
  exact ⟨nilS, [], 1, by rw [if_neg hnv], (hM.pick [] (by decide)).nil u8 5, .inr ⟨hnv, rfl, rfl⟩⟩
 have hv : vld W H pix.length := Decidable.byContradiction fun h => hC0 (by rw [if_neg h]; decide)
 obtain ⟨v1, v2, v3, v4, v5, v6⟩ := id hv
 obtain ⟨wd, rfl⟩ : ∃ n : Nat, W = (n : Int) := ⟨W.toNat, by omega⟩
 obtain ⟨ht, rfl⟩ : ∃ n : Nat, H = (n : Int) := ⟨H.toNat, by omega⟩
 have hn : pix.length = wd * ht := Int.ofNat.inj (v6.trans (Int.natCast_mul wd ht).symm)
 have hd : dep pix = 8 ∨ dep pix = 1 := (dep_cases pix).imp id (fun h => h.1)
 obtain ⟨s1, s2, s3, s4⟩ := dta_small hn (by omega) hsm (by omega)
 have hdl := dta_len (d := dep pix) hn hd
 refine Kk $ Kb $ Kc rfl $ C.cut0 [(1, _)] rfl [(5, i64 (dep pix : Int))] (fun w' => M w (Nn) w' [Rg.blk b1 24 [i64 (wd : Int), i64 (ht : Int), vp]]) ?_ ?_
 ·
  refine Kb $ E.fld (o := 2) (sz := 0) rfl U24 rfl rfl (by kernel_rfl) rfl $ E.load rfl U22 rfl (hM.bcell 0 rfl rfl) rfl $ E.lenv rfl (Rd.shape (hM.arg0 hp)) U22 rfl $ Km rfl $ Ka $ C.block $ C.loop1 [(1, _), (20, _), (21, _)] rfl (fun (i : Nat) => [(5, i64 1), (22, i64 i)]) (fun (i : Nat) w' => M w (Nn) w' [Rg.blk b1 24 [i64 (wd : Int), i64 (ht : Int), vp]] ∧ i ≤ pix.length ∧ ∀ x ∈ pix.take i, x = 0 ∨ x = 255) (fun (i : Nat) => pix.length - i) 0 ?_ ?_ ?_
  · exact Sub.cons rfl $ S1 rfl
  · exact ⟨hM, Nat.zero_le _, fun x hx => by simp at hx⟩
  rintro i w2 ⟨hM, hi, hall⟩
  refine Kb $ Kp rfl $ Ka $ C.seq $ C.cond' rfl (fun hC1 => ?_) (fun hC1 => ?_)
  ·
   have hi' : i < pix.length := by omega
   refine Kk $ C.seq $ C.block $ Kb $ E.get (k := i) rfl rfl (hM.arg0 hp) rfl (by omega) U22 (by kernel_rfl) U5 rfl rfl rfl ?_
   rw [u8c]
   refine Kc rfl $ C.chainE [(1, _), (5, _), (20, _), (21, _), (22, _)] rfl [(31, .bool (decide ((pix[i]).toNat ≠ 0 ∧ (pix[i]).toNat ≠ 255)))] ?_ ?_
   ·
    refine C.region $ Km rfl $ Kp rfl $ Km rfl $ E.split 28 rfl (fun g28 => ?_) (fun g28 => ?_)
    ·
     try simp only [Ya, Yb, Yc, Yd, Ye, Yf] at g28
     refine Ko rfl $ Km rfl $ Ko rfl $ Kp rfl $ Kr rfl $ E.nil $ X.join0 (Sub.cons (look_eq rfl (congrArg Value.bool (by exact decide_eq_decide.2 ⟨fun h => by omega, fun h => by omega⟩))) $ Sub.nil _) rfl rfl
    try simp only [Ya, Yb, Yc, Yd, Ye, Yf] at g28
    refine Kq rfl $ Kq rfl $ Kr rfl $ E.nil $ X.join0 (Sub.cons (look_eq rfl (congrArg Value.bool (by exact (decide_eq_false (p := (pix[i]).toNat ≠ 0 ∧ (pix[i]).toNat ≠ 255) (by omega)).symm))) $ Sub.nil _) rfl rfl
   refine C.cond' rfl (fun hC2 => ?_) (fun hC2 => ?_)
   ·
    refine Kb $ Kc rfl $ C.exit $ X.outNe rfl $ X.exitT $ X.exitT $ X.outE $ X.join0  (Sub.cons (look_val rfl (by rw [dep_8 hi' hC2]; rfl)) $ Sub.nil _) rfl hM
   refine C.skip $ X.outN $ X.next $ C.region $ E.add rfl rfl (by omega) rfl $ Km rfl $ E.nil $ X.again1 (i + 1) (Sub.cons rfl $ S1 rfl) rfl ⟨hM, by omega, all_takeN hi' hall (pix_ok hC2)⟩ (by omega)
  obtain rfl : i = pix.length := by omega
  rw [List.take_length] at hall
  refine C.exit $ X.exitT $ X.exitT $ X.outE $ X.join0  (Sub.cons (look_val rfl (by rw [dep_1 hall]; rfl)) $ Sub.nil _) rfl hM
 rintro  w3 hM
 refine Kb $ Kn rfl $ Kc rfl $ C.seq $ Kb $ E.fld (o := 1) (sz := 0) rfl U24 rfl rfl (by kernel_rfl) rfl $ E.load rfl U3 rfl (hM.bcell 0 rfl rfl) rfl $ Km rfl $ Ka $ C.block $ ?_
 have hM := (hM.nil u8 5).nil u8 5
 try dsimp only [List.nil_append, List.cons_append] at hM
 refine C.loop3 [(1, _), (5, _), (34, _)] rfl (fun (y : Nat) (vd : Value) (vq : Value) => [(8, vd), (9, vq), (35, i64 y)]) (fun (y : Nat) (vd : Value) (vq : Value) w' => M w (Nn) w' [Rg.blk b1 24 [i64 (wd : Int), i64 (ht : Int), vp], Rg.sl u8 5 vd (dta pix wd (dep pix) y), Rg.sl u8 5 vq (pri pix wd (dep pix) y)] ∧ y ≤ ht) (fun (y : Nat) (vd : Value) (vq : Value) => ht - y) 0 nilS nilS ?_ ?_ ?_
 · exact Sub.cons rfl $ Sub.cons rfl $ S1 rfl
 · exact ⟨hM, Nat.zero_le _⟩
 rintro y vd vq w4 ⟨hM, hy⟩
 refine Kb $ Kp rfl $ Ka $ C.seq $ C.cond' rfl (fun hC3 => ?_) (fun hC3 => ?_)
 ·
  have hy' : y < ht := by omega
  have hm1 := mul_le (w := wd) (y := y) (h := ht) (by omega)
  have hm2 : (y + 1) * wd = y * wd + wd := by rw [Nat.add_mul, Nat.one_mul]
  have hcl := cutw_len hn hy'
  have hpl := prow_len hn hy' hd
  have hpp : pri pix wd (dep pix) y = [] ∨ (pri pix wd (dep pix) y).length = (prow pix wd (dep pix) y).length := by
   cases y with
   | zero => exact .inl rfl
   | succ y => exact .inr (by rw [hpl]; exact prow_len hn (by omega) hd)
  have hdy := hdl y (by omega)
  have hdm : y * wid wd (dep pix) ≤ ht * wid wd (dep pix) := Nat.mul_le_mul_right _ hy
  refine Kk $ C.seq $ C.block $ Kb $ Km rfl $ Kd rfl $ E.fld (o := 2) (sz := 0) rfl U24 rfl rfl (by kernel_rfl) rfl $ E.load rfl U22 rfl (hM.bcell 0 rfl rfl) rfl $ Km rfl $ E.fld (o := 0) (sz := 0) rfl U24 rfl rfl (by kernel_rfl) rfl $ E.load rfl U3 rfl (hM.bcell 0 rfl rfl) rfl $ E.mulN (a := y) (b := wd) rfl rfl (by omega) rfl $ Km rfl $ E.addN (a := y) (b := 1) rfl rfl (by omega) rfl $ E.fld (o := 0) (sz := 0) rfl U24 rfl rfl (by kernel_rfl) rfl $ E.load rfl U3 rfl (hM.bcell 0 rfl rfl) rfl $ E.mulN (a := y + 1) (b := wd) rfl rfl (by omega) rfl $ E.slcP (y * wd) ((y + 1) * wd) rfl (.inl rfl) (.inl rfl) (hM.arg0 hp) U22 (by kernel_rfl) (by omega) (by omega) rfl $ Km rfl $ E.call rfl rfl (pack_ret _ (cutL (y * wd) ((y + 1) * wd) pix) (dep pix) _ ((hM.arg0 hp).partV (by omega) (by omega)) (by omega) (by omega)) ?_
  rintro v51 w5 m
  have hM := hM.call m
  refine Kd rfl $ Kf rfl $ Km rfl $ E.call rfl rfl (appendBest_ret vd v51 vq (dta pix wd (dep pix) y) (prow pix wd (dep pix) y) (pri pix wd (dep pix) y) _ (hM.sep1 1 rfl) (hM.sl 3 rfl) (hM.sl 2 rfl) (hM.offSl 3 1 (by decide) rfl rfl) (hM.offSl 2 1 (by decide) rfl rfl) hpp (by rw [hpl]; rcases hd with e | e <;> rw [e] <;> omega) (by omega)) ?_
  rintro v55 w6 m
  have hM := hM.call1 1 rfl (by simp) m
  refine Kc rfl $ C.region $ Km rfl $ Kn rfl $ E.nil $ X.outN $ X.next $ C.region $ E.add rfl rfl (by omega) rfl $ Km rfl $ E.nil $ X.again3 (y + 1) _ _ (Sub.cons rfl $ Sub.cons rfl $ S1 rfl) rfl ⟨hM.pick [0, 1, 3] (by decide), by omega⟩ (by omega)
 obtain rfl : y = ht := by omega
 refine Kx $ Kb $ Km rfl $ E.call rfl rfl (Wrap2_ret vd (dta pix wd (dep pix) y) _ (hM.sl 1 rfl) (by omega) (hM.ord0 hO)) ?_
 rintro _ w7 ⟨v60, rfl, m⟩
 have hM := hM.call m
 obtain ⟨x60, rfl⟩ := own_head (hM.own 3 rfl)
 refine Km rfl $ E.ext rfl rfl rfl $ E.ext rfl rfl rfl $ Kn rfl $ Kc rfl $ C.seq $ Kb $ Km rfl $ Kp rfl $ Ka $ C.cond' rfl (fun hC4 => ?_) (fun hC4 => ?_)
 ·
  exact absurd rfl hC4
 refine Kk $ C.seq $ C.heldE (by kernel_rfl) fun wh8 hwh8 _ => ?_
 have hS := hwh8
 have hM0 := hM
 have hM := M.ofExt hwh8
 refine Ku 0 rfl (by kernel_rfl) hS (Y.fld (o := 0) (sz := 0) rfl U24 rfl rfl (by kernel_rfl)) (fun w' hS => by have hM := hM0.ext hS; exact Y.fld (o := 0) (sz := 0) rfl U24 rfl rfl (by kernel_rfl)) rfl $ Ku 3 rfl (by kernel_rfl) hS (Y.fld (o := 1) (sz := 0) rfl U24 rfl rfl (by kernel_rfl)) (fun w' hS => by have hM := hM0.ext hS; exact Y.fld (o := 1) (sz := 0) rfl U24 rfl rfl (by kernel_rfl)) rfl $ Ku 1 rfl (by kernel_rfl) hS (Y.load rfl U3 rfl (by exact (hM0.ext hS).bcell 0 rfl rfl)) (fun w' hS => by have hM := hM0.ext hS; exact Y.load rfl U3 rfl (by exact hM.bcell 0 rfl rfl)) rfl $ Ku 4 rfl (by kernel_rfl) hS (Y.load rfl U3 rfl (by exact (hM0.ext hS).bcell 0 rfl rfl)) (fun w' hS => by have hM := hM0.ext hS; exact Y.load rfl U3 rfl (by exact hM.bcell 0 rfl rfl)) rfl $ H.only 2 rfl (by kernel_rfl) ?_
 have hM := hM.nil u8 5
 try dsimp only [List.nil_append, List.cons_append] at hM
 refine E.call rfl rfl (gappend_ret nilS [] wd _ (hM.sep1 0 rfl) (by omega) (by simp)) ?_
 rintro v68 w9 m
 have hM := hM.call1 0 rfl (by simp) m
 have hS := hM.toExt
 refine H.back hS $ H.only 5 rfl (by kernel_rfl) $ E.call rfl rfl (gappend_ret v68 ([] ++ Jn.enc4 wd) y _ (hM.sep1 0 rfl) (by omega) (by simp [Jn.enc4_len])) ?_
 rintro v71 w10 m
 have hM := hM.call1 0 rfl (by simp) m
 have hS := hM.toExt
 refine H.back hS $ Kt 6 rfl (by kernel_rfl) hS (fun w' hS => by have hM := hM0.ext hS; exact Y.asg rfl) rfl $ H.done (by kernel_rfl) ?_
 have hM := hM0.call hM
 refine X.next $ Kb $ Kf rfl $ E.conv rfl U3 U5 (c := ((UInt8.ofNat (dep pix)).toNat : Int)) (wrap8 _) rfl $ E.mkM (enc := u8) (e := 5) [UInt8.ofNat (dep pix), 0, 0, 0, 0] hM rfl (fun _ => by kernel_rfl) rfl rfl rfl ?_
 intro v75 w11 hM
 refine E.appendM 4 hM rfl rfl rfl U22 elem_Tuint8 (hM.sl 5 rfl) (fun _ => rfl) (by simp [Jn.enc4_len]) (by simp [Jn.enc4_len]) rfl ?_
 intro v76 w12 hM
 obtain ⟨x76, rfl⟩ := own_head (hM.own 4 rfl)
 refine Kd rfl $ Km rfl $ E.buildC (cs := [_, _]) [.string .empty, .slice none 0 0] [0, 1] rfl rfl (by kernel_rfl) rfl $ Km rfl $ E.buildC (cs := [_, _]) [.string .empty, .slice none 0 0] [0, 1] rfl rfl (by kernel_rfl) rfl $ E.buildC (cs := [_, _]) [.string .empty, .slice none 0 0] [0] rfl rfl (by kernel_rfl) rfl $ E.mkFM (enc := cke) (sz := 2) (e := 39) (zc (wck wd y pix) [x76, x60, (none, 0, 0)]) hM rfl (fun _ => by kernel_rfl) rfl (by decide) (fun a ha => rfl) rfl ?_
 intro v82 w82 hM
 have hwl := wrv_len (pix := pix) (w := wd) (h := y) (by omega)
 have hbb : ∀ c ∈ wck wd y pix, c.1.length ≤ 1000000 ∧ c.2.length ≤ 4194304 := fun c hc => by
  have : c = (tH, hdr wd y (dep pix)) ∨ c = (tD, Df.wrv (dta pix wd (dep pix) y) 2) ∨ c = (tE, []) := by simpa [wck] using hc
  rcases this with rfl | rfl | rfl
  · exact ⟨by simp [tH], by rw [hdr_len]; decide⟩
  · exact ⟨by simp [tD], by show (Df.wrv (dta pix wd (dep pix) y) 2).length ≤ _; omega⟩
  exact ⟨by decide, by decide⟩
 refine E.call rfl rfl (Join_ret _ [x76, x60, (none, 0, 0)] (wck wd y pix) _ ⟨hM.slF 6 rfl, bag3 (hM.sl 4 rfl) (hM.sl 3 rfl) rdl_nil⟩ hbb) ?_
 rintro _ w12 ⟨v83, out, e, rfl, m, hj⟩
 have hM := hM.call m
 rw [wck_jn (by omega)] at hj
 obtain ⟨rfl, rfl⟩ : 0 = e ∧ wri wd y pix = out := by
  rcases hj with ⟨h1, h2⟩ | ⟨_, h2, _⟩
  · cases h2; exact ⟨h1.symm, rfl⟩
  cases h2
 refine E.ext rfl rfl rfl $ E.ext rfl rfl rfl $ Kn rfl $ Kc rfl $ C.ret $ ret2 rfl rfl rfl ?_
 exact ⟨v83, _, 0, rfl, hM.pick [7] (by decide), .inl ⟨hv, rfl, by rw [Int.toNat_natCast, Int.toNat_natCast]⟩⟩
end Go.Proofs.YtajklleiifhipaaGreatDoor
