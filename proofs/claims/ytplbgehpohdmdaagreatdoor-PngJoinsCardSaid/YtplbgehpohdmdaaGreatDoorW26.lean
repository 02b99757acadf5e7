/- Texts of the claim, laid together: Pg8. -/
import Derived.Test.YtplbgehpohdmdaaGreatDoorW0
import Derived.Test.YtplbgehpohdmdaaGreatDoorW22
import Derived.Test.YtplbgehpohdmdaaGreatDoorW24
import Derived.Test.YtplbgehpohdmdaaGreatDoorW25
set_option linter.unusedSimpArgs false
set_option linter.unusedVariables false
namespace Go.Proofs.YtplbgehpohdmdaaGreatDoor
open Go.RowKit Sym
open Pg
theorem arranged2_ret (p : Value) (h0 : Hd) (hr : List Hd) (c : Ck) (r : List Ck) (w : World) (hc : Cks w p (h0 :: hr) (c :: r)) (h4 : ∀ x ∈ r, x.1.length = 4) (hb : (dtc r).length ≤ 100000000) (hrl : r.length ≤ 100000) :
  Ret Tryz.prog 47 #[p] w fun v w' => ∃ (vh vd : Value) (b : Bool) (out : List UInt8) (e : Int), v = .tuple #[vh, vd, .bool b, i64 e] ∧ M w Nn w' [Rg.sl u8 5 vd out] ∧ (((c.1 = tH ∧ c.2.length = 13 ∧ fmd 0 r = true) ∧ e = 0 ∧ vh = slv h0 ∧ out = dtc r ∧ b = anyD r) ∨ ((c.1 ≠ tH ∨ c.2.length ≠ 13 ∨ fmd 0 r = false) ∧ e = 9)) :=
 (arranged_ret p h0 hr c r w hc h4 hb hrl).mono fun v w' h => by
  rcases h with ⟨h1, vd, h2, h3⟩ | ⟨h1, h2, h3⟩
  · exact ⟨_, vd, _, _, 0, h2, h3, .inl ⟨h1, rfl, rfl, rfl, rfl⟩⟩
  · exact ⟨_, nilS, _, [], 9, h2, (M.ofExt h3).nil u8 5, .inr ⟨h1, rfl⟩⟩
theorem Cks.hd {w : World} {p : Value} {h0 : Hd} {hr : List Hd} {c : Ck} {r : List Ck} (h : Cks w p (h0 :: hr) (c :: r)) : RdL u8 w (slv h0) c.2 := h.data (i := 0) (by simp)
def RdiV (r : Except Int (Nat × Nat × List UInt8)) (W H : Int) (pix : List UInt8) (e : Int) : Prop := (∃ a b : Nat, e = 0 ∧ W = a ∧ H = b ∧ r = .ok (a, b, pix)) ∨ (e ≠ 0 ∧ r = .error e ∧ W = 0 ∧ H = 0 ∧ pix = [])
namespace Pg
theorem rdi_e {l : List UInt8} {e : Int} (h : rdf l = .error e) : rdi l = .error e := by rw [rdi, h]
theorem rdi_f {l : List UInt8} {c : Ck} {r : List Ck} (h : rdf l = .ok (c :: r)) (h2 : c.1 ≠ tH ∨ c.2.length ≠ 13 ∨ fmd 0 r = false) : rdi l = .error 9 := by
 rw [rdi, h]
 simp only
 rw [if_pos h2]
theorem rdi_i {l : List UInt8} {c : Ck} {r : List Ck} (h : rdf l = .ok (c :: r)) (h2 : c.1 = tH ∧ c.2.length = 13 ∧ fmd 0 r = true) : rdi l = img c.2 (dtc r) (anyD r) := by
 rw [rdi, h]
 simp only
 rw [if_neg]
 rintro (h3 | h3 | h3)
 · exact h3 h2.1
 · exact h3 h2.2.1
 · rw [h2.2.2] at h3; cases h3
theorem unf_len (m : Nat) (row prior : List UInt8) : (unf m row prior).length = row.length := unl_len _ _ _ _
theorem dtc_le (l : List Ck) : (dtc l).length ≤ csz l := by
 induction l with
 | nil => simp [dtc]
 | cons c l ih =>
  rw [dtc, csz_cons]
  split
  · rw [List.length_append]; omega
  · omega
theorem rwk_t {data prior pix : List UInt8} {sz w d y : Nat} (h : rwk data sz w d y = .ok (prior, pix)) (hm : ¬ 4 < at_ data (y * sz)) : rwk data sz w d (y + 1) = .ok (unf (at_ data (y * sz)) (cutL (y * sz + 1) ((y + 1) * sz) data) prior, pix ++ vls (unf (at_ data (y * sz)) (cutL (y * sz + 1) ((y + 1) * sz) data) prior) w d) := by
 rw [rwk, h]
 simp only
 rw [if_neg hm]
theorem rwk_f {data prior pix : List UInt8} {sz w d y n : Nat} (h : rwk data sz w d y = .ok (prior, pix)) (hm : 4 < at_ data (y * sz)) (hn : y + 1 ≤ n) : rwk data sz w d n = .error 37 := by
 refine rwk_err (y := y + 1) ?_ n hn
 rw [rwk, h]
 simp only
 rw [if_pos hm]
end Pg
set_option maxHeartbeats 8000000 in
set_option maxRecDepth 4000 in
theorem Read_ret (p : Value) (l : List UInt8) (w : World) (hl : RdL u8 w p l) (hO : Ord w) :
  Ret Tryz.prog 25 #[p] w fun v w' => ∃ (W H : Int) (vp : Value) (pix : List UInt8) (e : Int), v = .tuple #[imv W H vp, i64 e] ∧ M w Nn w' [Rg.sl u8 5 vp pix] ∧ RdiV (rdi l) W H pix e := by
 have hM := M.start w
 refine enter Tryz.func25 rfl (by kernel_rfl) Tryz.ntmps25 rfl ?_
 refine C.seq <| C.region <| ?_
 refine E.allocM (z := .agg #[.int .i64 0, .int .i64 0, .slice none 0 0]) (cs := [.int .i64 0, .int .i64 0, .slice none 0 0]) hM (by kernel_rfl) rfl rfl ?_
 intro b2 w0 hM
 try dsimp only [Za, Zb, Zc, Zd, repl] at hM
 refine E.asg rfl rfl <| E.nil <| X.next <| C.seq <| C.region <| E.mv rfl rfl <| ?_
 refine E.call rfl rfl (Chunks_ret p l _ (hM.arg0 hl)) ?_
 rintro _ w1 ⟨vo, hs, cs, e, rfl, m, hv⟩
 have hM := hM.call m
 try dsimp only [Za, Zb, Zc, Zd, repl] at hM
 refine E.mv rfl rfl <| E.ext rfl rfl rfl <| E.ext rfl rfl rfl <| E.asg rfl rfl <| E.asg rfl rfl <| E.nil <| X.next <| C.seq <| C.seq <| C.region <| E.mv rfl rfl <| E.bin rfl rfl rfl rfl <| E.nil <| X.next <| ?_
 refine C.cond' rfl (fun hC0 => ?_) (fun hC0 => ?_)
 ·
  obtain ⟨hne, hrd, _⟩ := hv.resolve_left (fun h => hC0 h.1)
  refine C.seq <| C.region <| ?_
  refine E.buildC (cs := [_, _, _]) [.int .i64 0, .int .i64 0, .slice none 0 0] [] rfl rfl (by kernel_rfl) rfl ?_
  refine E.mv rfl rfl <| ?_
  refine E.storeAM 0 hM rfl rfl rfl (by kernel_rfl) rfl (ones rfl <| ones rfl <| ones rfl <| ones_nil) ?_
  intro w2 hM
  try dsimp only [Za, Zb, Zc, Zd, repl] at hM
  refine E.asg rfl rfl <| E.nil <| X.next <| C.ret <| X.retT <| retAT rfl rfl rfl Tryz.underlying36 rfl (by exact hM.blk 0 rfl) (by kernel_rfl) ?_
  exact ⟨0, 0, nilS, [], e, rfl, (hM.pick [] (by decide)).nil u8 5, .inr ⟨hne, by rw [rdi_e hrd], rfl, rfl, rfl⟩⟩
 ·
  obtain ⟨rfl, hrd⟩ := hv.resolve_right (fun h => hC0 h.1)
  obtain ⟨hg, hl1, hl2, hl3⟩ := rdf_ok hrd
  have hg4 := gd_let hg
  have hlen : 8 + csz cs ≤ 4194304 := by
   have := congrArg List.length hl2
   rw [List.length_append, cks_len (fun x hx => (hg4 x hx).1), show sig.length = 8 from rfl] at this; omega
  obtain ⟨c, r, rfl⟩ : ∃ c r, cs = c :: r := by
   cases cs with
   | nil => exact hg.elim
   | cons c r => exact ⟨c, r, rfl⟩
  obtain ⟨h0, hr, rfl⟩ : ∃ h0 hr, hs = h0 :: hr := by
   have := (hM.cks 1 2 rfl rfl).len
   cases hs with
   | nil => simp at this
   | cons h0 hr => exact ⟨h0, hr, rfl⟩
  have hdl := dtc_le r
  rw [csz_cons] at hlen
  rw [List.length_cons] at hl1
  refine C.skip <| X.next <| C.seq <| C.region <| E.mv rfl rfl <| ?_
  refine E.call rfl rfl (arranged2_ret vo h0 hr c r _ (hM.cks 1 2 rfl rfl) (fun x hx => (hg4 x (by simp [hx])).1) (by omega) (by omega)) ?_
  rintro _ w3 ⟨vh, vd, b, out1, e1, rfl, m, ha⟩
  have hM := hM.call m
  try dsimp only [Za, Zb, Zc, Zd, repl] at hM
  refine E.mv rfl rfl <| E.ext rfl rfl rfl <| E.ext rfl rfl rfl <| E.ext rfl rfl rfl <| E.ext rfl rfl rfl <| E.asg rfl rfl <| E.asg rfl rfl <| E.asg rfl rfl <| E.asg rfl rfl <| E.nil <| X.next <| C.seq <| C.seq <| C.region <| E.mv rfl rfl <| E.bin rfl rfl rfl rfl <| E.nil <| X.next <| ?_
  refine C.cond' rfl (fun hC1 => ?_) (fun hC1 => ?_)
  ·
   obtain ⟨hbad, rfl⟩ := ha.resolve_left (fun h => hC1 h.2.1)
   refine C.seq <| C.region <| ?_
   refine E.buildC (cs := [_, _, _]) [.int .i64 0, .int .i64 0, .slice none 0 0] [] rfl rfl (by kernel_rfl) rfl ?_
   refine E.mv rfl rfl <| ?_
   refine E.storeAM 0 hM rfl rfl rfl (by kernel_rfl) rfl (ones rfl <| ones rfl <| ones rfl <| ones_nil) ?_
   intro w4 hM
   try dsimp only [Za, Zb, Zc, Zd, repl] at hM
   refine E.asg rfl rfl <| E.nil <| X.next <| C.ret <| X.retT <| retAT rfl rfl rfl Tryz.underlying36 rfl (by exact hM.blk 0 rfl) (by kernel_rfl) ?_
   exact ⟨0, 0, nilS, [], 9, rfl, (hM.pick [] (by decide)).nil u8 5, .inr ⟨by decide, by rw [rdi_f hrd hbad], rfl, rfl, rfl⟩⟩
  ·
   obtain ⟨hgood, rfl, rfl, rfl, rfl⟩ := ha.resolve_right (fun h => hC1 (by rw [h.2]; decide))
   have hc13 := hgood.2.1
   have himg := rdi_i hrd hgood
   obtain ⟨wd, hwd⟩ : ∃ n, n = Jn.dec4 c.2 := ⟨_, rfl⟩
   obtain ⟨ht, hht⟩ : ∃ n, n = Jn.dec4 (c.2.drop 4) := ⟨_, rfl⟩
   obtain ⟨d, hd⟩ : ∃ n, n = at_ c.2 8 := ⟨_, rfl⟩
   rw [img, ← hwd, ← hht, ← hd] at himg
   have hwl := Jn.dec4_lt c.2
   rw [← hwd] at hwl
   have hhl := Jn.dec4_lt (c.2.drop 4)
   rw [← hht] at hhl
   have hdl2 := at_le c.2 8
   rw [← hd] at hdl2
   refine C.skip <| X.next <| C.seq <| C.drawn (by kernel_rfl) (by kernel_rfl) <| Q.mv rfl rfl <| ?_
   refine Q.call (v := i64 (wd : Int)) rfl rfl (fun w' hw' => by rw [hwd]; exact gnumber_ret _ _ w' (((hM.cks 1 2 rfl rfl).hd).ext hw') (by show 4 ≤ c.2.length; omega)) ?_
   refine Q.mv rfl rfl <| ?_
   refine Q.slcP (k' := .i64) 4 c.2.length rfl (.inl rfl) (.inr ⟨rfl, rfl⟩) ((hM.cks 1 2 rfl rfl).hd) Tryz.underlying22 (by kernel_rfl) (by omega) (Nat.le_refl _) rfl ?_
   have r41 := RdL.partV (l := c.2) ((hM.cks 1 2 rfl rfl).hd) (a := 4) (b := c.2.length) (by omega) (by omega)
   rw [cut_all] at r41
   refine Q.call (v := i64 (ht : Int)) rfl rfl (fun w' hw' => by rw [hht]; exact gnumber_ret _ _ w' (r41.ext hw') (by rw [List.length_drop]; omega)) ?_
   refine Q.mv rfl rfl <| ?_
   refine Q.idx1 (k := 8) rfl rfl (((hM.cks 1 2 rfl rfl).hd)) rfl (by omega) Tryz.underlying22 (by kernel_rfl) rfl ?_
   refine Q.load rfl Tryz.underlying5 rfl ((((hM.cks 1 2 rfl rfl).hd)).cellA rfl (by omega)) rfl ?_
   rw [u8c, at_get (l := c.2) (i := 8) (by omega), ← hd]
   refine Q.conv rfl Tryz.underlying5 Tryz.underlying3 (IntWalk.i64_in _ (by omega)) rfl ?_
   refine Q.asg rfl rfl <| Q.asg rfl rfl <| Q.asg rfl rfl <| Q.nil <| fun w5 hx5 => ?_
   have hM := hM.ext hx5
   refine X.next <| C.seq <| ?_

   refine C.chainE [(2, _), (6, _), (7, _), (8, _), (9, _), (10, _), (11, _)] rfl [(66, .bool (decide (wd < 1 ∨ 4096 < wd ∨ ht < 1 ∨ 4096 < ht ∨ 4194304 < wd * ht)))] ?_ ?_
   ·
    refine C.region <| E.mv rfl rfl <| E.bin rfl rfl rfl rfl <| E.mv rfl rfl <| ?_
    refine E.split 49 rfl (fun g49 => ?_) (fun g49 => ?_)
    ·
     try simp only [Ya, Yb, Yc, Yd, Ye, Yf] at g49
     refine E.off rfl rfl rfl rfl <| E.off rfl rfl rfl rfl <| E.pick rfl rfl rfl <| E.mv rfl rfl <| E.off rfl rfl rfl rfl <| E.off rfl rfl rfl rfl <| E.pick rfl rfl rfl <| E.mv rfl rfl <| E.off rfl rfl rfl rfl <| E.off rfl rfl rfl rfl <| E.pick rfl rfl rfl <| E.mv rfl rfl <| E.off rfl rfl rfl rfl <| E.off rfl rfl rfl rfl <| E.off rfl rfl rfl rfl <| E.off rfl rfl rfl rfl <| E.pick rfl rfl rfl <| E.nil <| X.join0 (Sub.cons (look_eq rfl (congrArg Value.bool (by exact (decide_eq_true (p := wd < 1 ∨ 4096 < wd ∨ ht < 1 ∨ 4096 < ht ∨ 4194304 < wd * ht) (by omega)).symm))) <| Sub.nil _) rfl rfl
    ·
     try simp only [Ya, Yb, Yc, Yd, Ye, Yf] at g49
     refine E.on rfl rfl (E.mv rfl rfl ?_)
     refine E.on rfl rfl (E.bin rfl rfl rfl rfl ?_)
     refine E.pick rfl rfl rfl <| E.mv rfl rfl <| ?_
     refine E.split 53 rfl (fun g53 => ?_) (fun g53 => ?_)
     ·
      try simp only [Ya, Yb, Yc, Yd, Ye, Yf] at g53
      refine E.off rfl rfl rfl rfl <| E.off rfl rfl rfl rfl <| E.pick rfl rfl rfl <| E.mv rfl rfl <| E.off rfl rfl rfl rfl <| E.off rfl rfl rfl rfl <| E.pick rfl rfl rfl <| E.mv rfl rfl <| E.off rfl rfl rfl rfl <| E.off rfl rfl rfl rfl <| E.off rfl rfl rfl rfl <| E.off rfl rfl rfl rfl <| E.pick rfl rfl rfl <| E.nil <| X.join0 (Sub.cons (look_eq rfl (congrArg Value.bool (by exact (decide_eq_true (p := wd < 1 ∨ 4096 < wd ∨ ht < 1 ∨ 4096 < ht ∨ 4194304 < wd * ht) (by omega)).symm))) <| Sub.nil _) rfl rfl
     ·
      try simp only [Ya, Yb, Yc, Yd, Ye, Yf] at g53
      refine E.on rfl rfl (E.mv rfl rfl ?_)
      refine E.on rfl rfl (E.bin rfl rfl rfl rfl ?_)
      refine E.pick rfl rfl rfl <| E.mv rfl rfl <| ?_
      refine E.split 57 rfl (fun g57 => ?_) (fun g57 => ?_)
      ·
       try simp only [Ya, Yb, Yc, Yd, Ye, Yf] at g57
       refine E.off rfl rfl rfl rfl <| E.off rfl rfl rfl rfl <| E.pick rfl rfl rfl <| E.mv rfl rfl <| E.off rfl rfl rfl rfl <| E.off rfl rfl rfl rfl <| E.off rfl rfl rfl rfl <| E.off rfl rfl rfl rfl <| E.pick rfl rfl rfl <| E.nil <| X.join0 (Sub.cons (look_eq rfl (congrArg Value.bool (by exact (decide_eq_true (p := wd < 1 ∨ 4096 < wd ∨ ht < 1 ∨ 4096 < ht ∨ 4194304 < wd * ht) (by omega)).symm))) <| Sub.nil _) rfl rfl
      ·
       try simp only [Ya, Yb, Yc, Yd, Ye, Yf] at g57
       refine E.on rfl rfl (E.mv rfl rfl ?_)
       refine E.on rfl rfl (E.bin rfl rfl rfl rfl ?_)
       refine E.pick rfl rfl rfl <| E.mv rfl rfl <| ?_
       refine E.split 61 rfl (fun g61 => ?_) (fun g61 => ?_)
       ·
        try simp only [Ya, Yb, Yc, Yd, Ye, Yf] at g61
        refine E.off rfl rfl rfl rfl <| E.off rfl rfl rfl rfl <| E.off rfl rfl rfl rfl <| E.off rfl rfl rfl rfl <| E.pick rfl rfl rfl <| E.nil <| X.join0 (Sub.cons (look_eq rfl (congrArg Value.bool (by exact (decide_eq_true (p := wd < 1 ∨ 4096 < wd ∨ ht < 1 ∨ 4096 < ht ∨ 4194304 < wd * ht) (by omega)).symm))) <| Sub.nil _) rfl rfl
       ·
        try simp only [Ya, Yb, Yc, Yd, Ye, Yf] at g61
        have hwh : wd * ht ≤ 4096 * 4096 := Nat.mul_le_mul (by omega) (by omega)
        refine E.on rfl rfl (E.mv rfl rfl ?_)
        refine E.on rfl rfl (E.mv rfl rfl ?_)
        refine E.on rfl rfl (E.mulN (a := wd) (b := ht) rfl rfl (by omega) rfl ?_)
        refine E.on rfl rfl (E.bin rfl rfl rfl rfl ?_)
        refine E.pick rfl rfl rfl <| E.nil <| X.join0 (Sub.cons (look_eq rfl (congrArg Value.bool (by exact decide_eq_decide.2 ⟨fun h => by omega, fun h => by omega⟩))) <| Sub.nil _) rfl rfl
   refine C.cond' rfl (fun hC2 => ?_) (fun hC2 => ?_)
   ·
    refine C.seq <| C.region <| ?_
    refine E.buildC (cs := [_, _, _]) [.int .i64 0, .int .i64 0, .slice none 0 0] [] rfl rfl (by kernel_rfl) rfl ?_
    refine E.storeAM 0 hM rfl rfl rfl (by kernel_rfl) rfl (ones rfl <| ones rfl <| ones rfl <| ones_nil) ?_
    intro w6 hM
    try dsimp only [Za, Zb, Zc, Zd, repl] at hM
    refine E.asg rfl rfl <| E.nil <| X.next <| C.ret <| X.retT <| retAT rfl rfl rfl Tryz.underlying36 rfl (by exact hM.blk 0 rfl) (by kernel_rfl) ?_
    exact ⟨0, 0, nilS, [], 23, rfl, (hM.pick [] (by decide)).nil u8 5, .inr ⟨by decide, by rw [himg, if_pos hC2], rfl, rfl, rfl⟩⟩
   ·
    refine C.skip <| X.next <| C.seq <| ?_

    refine C.chainE [(2, _), (6, _), (7, _), (8, _), (9, _), (10, _), (11, _)] rfl [(87, .bool (decide ((d ≠ 1 ∧ d ≠ 2 ∧ d ≠ 4 ∧ d ≠ 8) ∨ at_ c.2 9 ≠ 0)))] ?_ ?_
    ·
     refine C.region <| E.mv rfl rfl <| E.bin rfl rfl rfl rfl <| E.mv rfl rfl <| ?_
     refine E.split 70 rfl (fun g70 => ?_) (fun g70 => ?_)
     ·
      try simp only [Ya, Yb, Yc, Yd, Ye, Yf] at g70
      refine E.on rfl rfl (E.mv rfl rfl ?_)
      refine E.on rfl rfl (E.bin rfl rfl rfl rfl ?_)
      refine E.pick rfl rfl rfl <| E.mv rfl rfl <| ?_
      refine E.split 74 rfl (fun g74 => ?_) (fun g74 => ?_)
      ·
       try simp only [Ya, Yb, Yc, Yd, Ye, Yf] at g74
       refine E.on rfl rfl (E.mv rfl rfl ?_)
       refine E.on rfl rfl (E.bin rfl rfl rfl rfl ?_)
       refine E.pick rfl rfl rfl <| E.mv rfl rfl <| ?_
       refine E.split 78 rfl (fun g78 => ?_) (fun g78 => ?_)
       ·
        try simp only [Ya, Yb, Yc, Yd, Ye, Yf] at g78
        refine E.on rfl rfl (E.mv rfl rfl ?_)
        refine E.on rfl rfl (E.bin rfl rfl rfl rfl ?_)
        refine E.pick rfl rfl rfl <| E.mv rfl rfl <| ?_
        refine E.split 82 rfl (fun g82 => ?_) (fun g82 => ?_)
        ·
         try simp only [Ya, Yb, Yc, Yd, Ye, Yf] at g82
         refine E.off rfl rfl rfl rfl <| E.off rfl rfl rfl rfl <| E.off rfl rfl rfl rfl <| E.off rfl rfl rfl rfl <| E.pick rfl rfl rfl <| E.nil <| X.join0 (Sub.cons (look_eq rfl (congrArg Value.bool (by exact (decide_eq_true (p := (d ≠ 1 ∧ d ≠ 2 ∧ d ≠ 4 ∧ d ≠ 8) ∨ at_ c.2 9 ≠ 0) (by omega)).symm))) <| Sub.nil _) rfl rfl
        ·
         try simp only [Ya, Yb, Yc, Yd, Ye, Yf] at g82
         refine E.on rfl rfl (E.mv rfl rfl ?_)
         refine E.on rfl rfl (E.idx1 (k := 9) rfl rfl (((hM.cks 1 2 rfl rfl).hd)) rfl (by omega) Tryz.underlying22 (by kernel_rfl) rfl ?_)
         refine E.on rfl rfl (E.load rfl Tryz.underlying5 rfl ((((hM.cks 1 2 rfl rfl).hd)).cellA rfl (by omega)) rfl ?_)
         rw [u8c, at_get (l := c.2) (i := 9) (by omega)]
         refine E.on rfl rfl (E.bin rfl rfl rfl rfl ?_)
         refine E.pick rfl rfl rfl <| E.nil <| X.join0 (Sub.cons (look_eq rfl (congrArg Value.bool (by exact decide_eq_decide.2 ⟨fun h => by omega, fun h => by omega⟩))) <| Sub.nil _) rfl rfl
       ·
        try simp only [Ya, Yb, Yc, Yd, Ye, Yf] at g78
        refine E.off rfl rfl rfl rfl <| E.off rfl rfl rfl rfl <| E.pick rfl rfl rfl <| E.mv rfl rfl <| ?_
        refine E.on rfl rfl (E.mv rfl rfl ?_)
        refine E.on rfl rfl (E.idx1 (k := 9) rfl rfl (((hM.cks 1 2 rfl rfl).hd)) rfl (by omega) Tryz.underlying22 (by kernel_rfl) rfl ?_)
        refine E.on rfl rfl (E.load rfl Tryz.underlying5 rfl ((((hM.cks 1 2 rfl rfl).hd)).cellA rfl (by omega)) rfl ?_)
        rw [u8c, at_get (l := c.2) (i := 9) (by omega)]
        refine E.on rfl rfl (E.bin rfl rfl rfl rfl ?_)
        refine E.pick rfl rfl rfl <| E.nil <| X.join0 (Sub.cons (look_eq rfl (congrArg Value.bool (by exact decide_eq_decide.2 ⟨fun h => by omega, fun h => by omega⟩))) <| Sub.nil _) rfl rfl
      ·
       try simp only [Ya, Yb, Yc, Yd, Ye, Yf] at g74
       refine E.off rfl rfl rfl rfl <| E.off rfl rfl rfl rfl <| E.pick rfl rfl rfl <| E.mv rfl rfl <| E.off rfl rfl rfl rfl <| E.off rfl rfl rfl rfl <| E.pick rfl rfl rfl <| E.mv rfl rfl <| ?_
       refine E.on rfl rfl (E.mv rfl rfl ?_)
       refine E.on rfl rfl (E.idx1 (k := 9) rfl rfl (((hM.cks 1 2 rfl rfl).hd)) rfl (by omega) Tryz.underlying22 (by kernel_rfl) rfl ?_)
       refine E.on rfl rfl (E.load rfl Tryz.underlying5 rfl ((((hM.cks 1 2 rfl rfl).hd)).cellA rfl (by omega)) rfl ?_)
       rw [u8c, at_get (l := c.2) (i := 9) (by omega)]
       refine E.on rfl rfl (E.bin rfl rfl rfl rfl ?_)
       refine E.pick rfl rfl rfl <| E.nil <| X.join0 (Sub.cons (look_eq rfl (congrArg Value.bool (by exact decide_eq_decide.2 ⟨fun h => by omega, fun h => by omega⟩))) <| Sub.nil _) rfl rfl
     ·
      try simp only [Ya, Yb, Yc, Yd, Ye, Yf] at g70
      refine E.off rfl rfl rfl rfl <| E.off rfl rfl rfl rfl <| E.pick rfl rfl rfl <| E.mv rfl rfl <| E.off rfl rfl rfl rfl <| E.off rfl rfl rfl rfl <| E.pick rfl rfl rfl <| E.mv rfl rfl <| E.off rfl rfl rfl rfl <| E.off rfl rfl rfl rfl <| E.pick rfl rfl rfl <| E.mv rfl rfl <| ?_
      refine E.on rfl rfl (E.mv rfl rfl ?_)
      refine E.on rfl rfl (E.idx1 (k := 9) rfl rfl (((hM.cks 1 2 rfl rfl).hd)) rfl (by omega) Tryz.underlying22 (by kernel_rfl) rfl ?_)
      refine E.on rfl rfl (E.load rfl Tryz.underlying5 rfl ((((hM.cks 1 2 rfl rfl).hd)).cellA rfl (by omega)) rfl ?_)
      rw [u8c, at_get (l := c.2) (i := 9) (by omega)]
      refine E.on rfl rfl (E.bin rfl rfl rfl rfl ?_)
      refine E.pick rfl rfl rfl <| E.nil <| X.join0 (Sub.cons (look_eq rfl (congrArg Value.bool (by exact decide_eq_decide.2 ⟨fun h => by omega, fun h => by omega⟩))) <| Sub.nil _) rfl rfl
    refine C.cond' rfl (fun hC3 => ?_) (fun hC3 => ?_)
    ·
     refine C.seq <| C.region <| ?_
     refine E.buildC (cs := [_, _, _]) [.int .i64 0, .int .i64 0, .slice none 0 0] [] rfl rfl (by kernel_rfl) rfl ?_
     refine E.storeAM 0 hM rfl rfl rfl (by kernel_rfl) rfl (ones rfl <| ones rfl <| ones rfl <| ones_nil) ?_
     intro w7 hM
     try dsimp only [Za, Zb, Zc, Zd, repl] at hM
     refine E.asg rfl rfl <| E.nil <| X.next <| C.ret <| X.retT <| retAT rfl rfl rfl Tryz.underlying36 rfl (by exact hM.blk 0 rfl) (by kernel_rfl) ?_
     exact ⟨0, 0, nilS, [], 9, rfl, (hM.pick [] (by decide)).nil u8 5, .inr ⟨by decide, by rw [himg, if_neg hC2, if_pos hC3], rfl, rfl, rfl⟩⟩
    ·
     refine C.skip <| X.next <| C.seq <| ?_

     refine C.chainE [(2, _), (7, _), (8, _), (9, _), (10, _), (11, _)] rfl [(104, .bool (decide (at_ c.2 10 ≠ 0 ∨ at_ c.2 11 ≠ 0 ∨ at_ c.2 12 ≠ 0)))] ?_ ?_
     ·
      refine C.region <| E.mv rfl rfl <| ?_
      refine E.get (k := 10) rfl rfl ((hM.cks 1 2 rfl rfl).hd) rfl (by show 10 < c.2.length; omega) Tryz.underlying22 (by kernel_rfl) Tryz.underlying5 rfl rfl rfl ?_
      rw [u8c, at_get (l := c.2) (i := 10) (by omega)]
      refine E.bin rfl rfl rfl rfl <| E.mv rfl rfl <| ?_
      refine E.split 93 rfl (fun g93 => ?_) (fun g93 => ?_)
      ·
       try simp only [Ya, Yb, Yc, Yd, Ye, Yf] at g93
       refine E.off rfl rfl rfl rfl <| E.off rfl rfl rfl rfl <| E.off rfl rfl rfl rfl <| E.off rfl rfl rfl rfl <| E.pick rfl rfl rfl <| E.mv rfl rfl <| E.off rfl rfl rfl rfl <| E.off rfl rfl rfl rfl <| E.off rfl rfl rfl rfl <| E.off rfl rfl rfl rfl <| E.pick rfl rfl rfl <| E.nil <| X.join0 (Sub.cons (look_eq rfl (congrArg Value.bool (by exact (decide_eq_true (p := at_ c.2 10 ≠ 0 ∨ at_ c.2 11 ≠ 0 ∨ at_ c.2 12 ≠ 0) (by omega)).symm))) <| Sub.nil _) rfl rfl
      ·
       try simp only [Ya, Yb, Yc, Yd, Ye, Yf] at g93
       refine E.on rfl rfl (E.mv rfl rfl ?_)
       refine E.on rfl rfl (E.idx1 (k := 11) rfl rfl (((hM.cks 1 2 rfl rfl).hd)) rfl (by omega) Tryz.underlying22 (by kernel_rfl) rfl ?_)
       refine E.on rfl rfl (E.load rfl Tryz.underlying5 rfl ((((hM.cks 1 2 rfl rfl).hd)).cellA rfl (by omega)) rfl ?_)
       rw [u8c, at_get (l := c.2) (i := 11) (by omega)]
       refine E.on rfl rfl (E.bin rfl rfl rfl rfl ?_)
       refine E.pick rfl rfl rfl <| E.mv rfl rfl <| ?_
       refine E.split 99 rfl (fun g99 => ?_) (fun g99 => ?_)
       ·
        try simp only [Ya, Yb, Yc, Yd, Ye, Yf] at g99
        refine E.off rfl rfl rfl rfl <| E.off rfl rfl rfl rfl <| E.off rfl rfl rfl rfl <| E.off rfl rfl rfl rfl <| E.pick rfl rfl rfl <| E.nil <| X.join0 (Sub.cons (look_eq rfl (congrArg Value.bool (by exact (decide_eq_true (p := at_ c.2 10 ≠ 0 ∨ at_ c.2 11 ≠ 0 ∨ at_ c.2 12 ≠ 0) (by omega)).symm))) <| Sub.nil _) rfl rfl
       ·
        try simp only [Ya, Yb, Yc, Yd, Ye, Yf] at g99
        refine E.on rfl rfl (E.mv rfl rfl ?_)
        refine E.on rfl rfl (E.idx1 (k := 12) rfl rfl (((hM.cks 1 2 rfl rfl).hd)) rfl (by omega) Tryz.underlying22 (by kernel_rfl) rfl ?_)
        refine E.on rfl rfl (E.load rfl Tryz.underlying5 rfl ((((hM.cks 1 2 rfl rfl).hd)).cellA rfl (by omega)) rfl ?_)
        rw [u8c, at_get (l := c.2) (i := 12) (by omega)]
        refine E.on rfl rfl (E.bin rfl rfl rfl rfl ?_)
        refine E.pick rfl rfl rfl <| E.nil <| X.join0 (Sub.cons (look_eq rfl (congrArg Value.bool (by exact decide_eq_decide.2 ⟨fun h => by omega, fun h => by omega⟩))) <| Sub.nil _) rfl rfl
     refine C.cond' rfl (fun hC4 => ?_) (fun hC4 => ?_)
     ·
      refine C.seq <| C.region <| ?_
      refine E.buildC (cs := [_, _, _]) [.int .i64 0, .int .i64 0, .slice none 0 0] [] rfl rfl (by kernel_rfl) rfl ?_
      refine E.storeAM 0 hM rfl rfl rfl (by kernel_rfl) rfl (ones rfl <| ones rfl <| ones rfl <| ones_nil) ?_
      intro w8 hM
      try dsimp only [Za, Zb, Zc, Zd, repl] at hM
      refine E.asg rfl rfl <| E.nil <| X.next <| C.ret <| X.retT <| retAT rfl rfl rfl Tryz.underlying36 rfl (by exact hM.blk 0 rfl) (by kernel_rfl) ?_
      exact ⟨0, 0, nilS, [], 37, rfl, (hM.pick [] (by decide)).nil u8 5, .inr ⟨by decide, by rw [himg, if_neg hC2, if_neg hC3, if_pos hC4], rfl, rfl, rfl⟩⟩
     ·
      refine C.skip <| X.next <| C.seq <| C.seq <| C.region <| E.mv rfl rfl <| E.not rfl rfl <| E.nil <| X.next <| ?_
      refine C.cond rfl (fun hC5 => ?_) (fun hC5 => ?_)
      ·
       have hany : anyD r = false := by simpa using hC5
       refine C.seq <| C.region <| ?_
       refine E.buildC (cs := [_, _, _]) [.int .i64 0, .int .i64 0, .slice none 0 0] [] rfl rfl (by kernel_rfl) rfl ?_
       refine E.storeAM 0 hM rfl rfl rfl (by kernel_rfl) rfl (ones rfl <| ones rfl <| ones rfl <| ones_nil) ?_
       intro w9 hM
       try dsimp only [Za, Zb, Zc, Zd, repl] at hM
       refine E.asg rfl rfl <| E.nil <| X.next <| C.ret <| X.retT <| retAT rfl rfl rfl Tryz.underlying36 rfl (by exact hM.blk 0 rfl) (by kernel_rfl) ?_
       exact ⟨0, 0, nilS, [], 33, rfl, (hM.pick [] (by decide)).nil u8 5, .inr ⟨by decide, by rw [himg, if_neg hC2, if_neg hC3, if_neg hC4, if_pos hany], rfl, rfl, rfl⟩⟩
      ·
       have hany : ¬ anyD r = false := by simpa using hC5
       rw [if_neg hC2, if_neg hC3, if_neg hC4, if_neg hany] at himg
       have hd4 : d = 1 ∨ d = 2 ∨ d = 4 ∨ d = 8 := by omega
       obtain ⟨q, hq⟩ : ∃ q, q = wd * d := ⟨_, rfl⟩
       have hq2 : wd * d ≤ 4096 * 8 := Nat.mul_le_mul (by omega) (by omega)
       obtain ⟨sz, hsz⟩ : ∃ s, s = wid wd d := ⟨_, rfl⟩
       have hsz2 : sz = 1 + (q + 7) / 8 := by rw [hsz, hq]; rfl
       rw [← hsz] at himg
       have hhs : ht * sz ≤ 4096 * 4097 := Nat.mul_le_mul (by omega) (by omega)
       have hwh : wd * ht ≤ 4096 * 4096 := Nat.mul_le_mul (by omega) (by omega)
       refine C.skip <| X.next <| C.seq <| C.region <| E.mv rfl rfl <| E.mv rfl rfl <| ?_
       refine E.mulN (a := wd) (b := d) rfl rfl (by omega) rfl ?_
       rw [← hq]
       refine E.addN (a := q) (b := 7) rfl rfl (by omega) rfl ?_
       refine E.quo (c := ((q + 7) / 8 : Nat)) rfl rfl (by omega) ((IntWalk.i64_quo _ _ (by omega)).trans (by omega)) rfl ?_
       refine E.addN (a := 1) (b := (q + 7) / 8) rfl rfl (by omega) rfl ?_
       rw [← hsz2]
       refine E.asg rfl rfl <| E.nil <| X.next <| C.seq <| C.region <| E.mv rfl rfl <| E.mv rfl rfl <| E.mv rfl rfl <| ?_
       refine E.mulN (a := ht) (b := sz) rfl rfl (by omega) rfl ?_
       refine E.call rfl rfl (Unwrap_ret vd (dtc r) ((ht * sz : Nat) : Int) _ (hM.sl 3 rfl) (hM.ord0 hO)) ?_
       rintro _ w10 ⟨v120, out, e2, rfl, m, hu⟩
       have hM := hM.call m
       try dsimp only [Za, Zb, Zc, Zd, repl] at hM
       refine E.mv rfl rfl <| E.ext rfl rfl rfl <| E.ext rfl rfl rfl <| E.asg rfl rfl <| E.asg rfl rfl <| E.nil <| X.next <| C.seq <| C.seq <| C.region <| E.mv rfl rfl <| E.bin rfl rfl rfl rfl <| E.nil <| X.next <| ?_
       refine C.cond' rfl (fun hC6 => ?_) (fun hC6 => ?_)
       ·
        obtain ⟨hne, hu2, _⟩ := hu.resolve_left (fun h => hC6 h.1)
        refine C.seq <| C.region <| ?_
        refine E.buildC (cs := [_, _, _]) [.int .i64 0, .int .i64 0, .slice none 0 0] [] rfl rfl (by kernel_rfl) rfl ?_
        refine E.mv rfl rfl <| ?_
        refine E.storeAM 0 hM rfl rfl rfl (by kernel_rfl) rfl (ones rfl <| ones rfl <| ones rfl <| ones_nil) ?_
        intro w11 hM
        try dsimp only [Za, Zb, Zc, Zd, repl] at hM
        refine E.asg rfl rfl <| E.nil <| X.next <| C.ret <| X.retT <| retAT rfl rfl rfl Tryz.underlying36 rfl (by exact hM.blk 0 rfl) (by kernel_rfl) ?_
        exact ⟨0, 0, nilS, [], e2, rfl, (hM.pick [] (by decide)).nil u8 5, .inr ⟨hne, by rw [himg, hu2], rfl, rfl, rfl⟩⟩
       ·
        obtain ⟨_, hu2⟩ := hu.resolve_right (fun h => hC6 h.1)
        rw [hu2] at himg
        simp only at himg
        refine C.skip <| X.next <| C.seq <| C.seq <| C.region <| E.mv rfl rfl <| ?_
        refine E.lenv rfl (Rd.shape (hM.sl 4 rfl)) Tryz.underlying22 rfl ?_
        refine E.mv rfl rfl <| E.mv rfl rfl <| ?_
        refine E.mulN (a := ht) (b := sz) rfl rfl (by omega) rfl ?_
        refine E.bin rfl rfl rfl rfl <| E.nil <| X.next <| ?_
        refine C.cond' rfl (fun hC7 => ?_) (fun hC7 => ?_)
        ·
         refine C.seq <| C.region <| ?_
         refine E.buildC (cs := [_, _, _]) [.int .i64 0, .int .i64 0, .slice none 0 0] [] rfl rfl (by kernel_rfl) rfl ?_
         refine E.storeAM 0 hM rfl rfl rfl (by kernel_rfl) rfl (ones rfl <| ones rfl <| ones rfl <| ones_nil) ?_
         intro w12 hM
         try dsimp only [Za, Zb, Zc, Zd, repl] at hM
         refine E.asg rfl rfl <| E.nil <| X.next <| C.ret <| X.retT <| retAT rfl rfl rfl Tryz.underlying36 rfl (by exact hM.blk 0 rfl) (by kernel_rfl) ?_
         exact ⟨0, 0, nilS, [], 10, rfl, (hM.pick [] (by decide)).nil u8 5, .inr ⟨by decide, by rw [himg, if_pos (by omega)], rfl, rfl, rfl⟩⟩
        ·
         rw [if_neg (show ¬ out.length < ht * sz by omega)] at himg
         refine C.skip <| X.next <| C.seq <| C.region <| E.mv rfl rfl <| E.mv rfl rfl <| E.mv rfl rfl <| E.mv rfl rfl <| ?_
         refine E.mulN (a := wd) (b := ht) rfl rfl (by omega) rfl ?_
         refine E.make0M (by_ := 1) (enc := u8) 0 hM rfl (n := wd * ht) rfl Tryz.underlying22 (by kernel_rfl) rfl (by omega) (by omega) rfl ?_
         intro v139 w13 hM
         try dsimp only [Za, Zb, Zc, Zd, repl] at hM
         obtain ⟨x139, rfl⟩ := own_head (hM.own 5 rfl)
         refine E.buildC (cs := [_, _, _]) [.int .i64 0, .int .i64 0, .slice none 0 0] [0, 1, 2] rfl rfl (by kernel_rfl) rfl ?_
         refine E.allocM (z := .agg #[.int .i64 0, .int .i64 0, .slice none 0 0]) (cs := [.int .i64 0, .int .i64 0, .slice none 0 0]) hM (by kernel_rfl) rfl rfl ?_
         intro b13 w14 hM
         try dsimp only [Za, Zb, Zc, Zd, repl] at hM
         refine E.storeAM 6 hM rfl rfl rfl (by kernel_rfl) rfl (ones rfl <| ones rfl <| ones (hM.sl 5 rfl).one <| ones_nil) ?_
         intro w15 hM
         try dsimp only [Za, Zb, Zc, Zd, repl] at hM
         refine E.nil <| X.next <| C.seq <| C.region <| E.asg rfl rfl <| E.nil <| X.next <| C.seq <| C.seq <| C.region <| E.mv rfl rfl <| E.mv rfl rfl <| E.nil <| X.next <| C.block <| ?_
         have hM := (hM.pick [0, 4, 6, 5] (by decide)).nil u8 5
         try dsimp only [List.nil_append, List.cons_append] at hM

         refine C.loop5 [(2, _), (7, _), (9, _), (11, _), (12, _), (13, _), (141, _)] rfl (fun (y : Nat) (vq : Value) (vx : Value) (prior : (List UInt8)) (pix : (List UInt8)) => [(14, vq), (142, i64 y)]) (fun (y : Nat) (vq : Value) (vx : Value) (prior : (List UInt8)) (pix : (List UInt8)) w' => M w (Nn) w' [Rg.blk b2 36 [i64 0, i64 0, nilS], Rg.sl u8 5 v120 out, Rg.blk b13 36 [i64 (wd : Int), i64 (ht : Int), vx], Rg.sl u8 5 vx pix, Rg.sl u8 5 vq prior] ∧ y ≤ ht ∧ rwk out sz wd d y = .ok (prior, pix) ∧ pix.length = y * wd ∧ (prior = [] ∨ prior.length = sz - 1)) (fun (y : Nat) (vq : Value) (vx : Value) (prior : (List UInt8)) (pix : (List UInt8)) => ht - y) 0 nilS (slv x139) [] [] ?_ ?_ ?_
         · exact Sub.cons rfl <| Sub.cons rfl <| Sub.nil _
         · exact ⟨hM, Nat.zero_le _, rfl, by simp, .inl rfl⟩
         rintro y vq vx prior pix w16 ⟨hM, hy, hR, hpx, hpr⟩
         refine C.seq <| C.region <| E.bin rfl rfl rfl rfl <| E.nil <| X.next <| C.seq <| ?_
         refine C.cond' rfl (fun hC8 => ?_) (fun hC8 => ?_)
         ·
          have hy' : y < ht := by omega
          have hm1 : (y + 1) * sz ≤ ht * sz := Nat.mul_le_mul_right _ (by omega)
          have hm2 : (y + 1) * sz = y * sz + sz := by rw [Nat.add_mul, Nat.one_mul]
          have hm3 : y * wd ≤ ht * wd := Nat.mul_le_mul_right _ hy
          rw [Nat.mul_comm ht wd] at hm3
          have hcl : (cutL (y * sz + 1) ((y + 1) * sz) out).length = sz - 1 := by rw [cut_len2 (by omega)]; omega
          have hal := at_le out (y * sz)
          refine C.skip <| X.next <| C.seq <| C.block <| C.seq <| C.region <| E.mv rfl rfl <| E.asg rfl rfl <| E.nil <| X.next <| C.seq <| C.heldE (by kernel_rfl) fun wh17 hwh17 _ => ?_
          have hS := hwh17
          have hM0 := hM
          have hM := M.ofExt hwh17
          refine H.take 0 rfl rfl (by kernel_rfl) (by kernel_rfl) (by kernel_rfl) hS (fun w' hS => by have hM := hM0.ext hS; exact Y.mv rfl) rfl ?_
          refine H.take 1 rfl rfl (by kernel_rfl) (by kernel_rfl) (by kernel_rfl) hS (fun w' hS => by have hM := hM0.ext hS; exact Y.mv rfl) rfl ?_
          refine H.take 2 rfl rfl (by kernel_rfl) (by kernel_rfl) (by kernel_rfl) hS (fun w' hS => by have hM := hM0.ext hS; exact Y.mv rfl) rfl ?_
          refine H.take 3 rfl rfl (by kernel_rfl) (by kernel_rfl) (by kernel_rfl) hS (fun w' hS => by have hM := hM0.ext hS; exact Y.mulN (a := y) (b := sz) rfl rfl (by omega)) rfl ?_
          refine H.takeV 4 rfl rfl (by kernel_rfl) (by kernel_rfl) (by kernel_rfl) hS (Y.idx1 (k := y * sz) rfl rfl ((hM0.ext hS).sl 1 rfl) rfl (by omega) Tryz.underlying22 (by kernel_rfl)) (fun w' hS => by have hM := hM0.ext hS; exact Y.idx1 (k := y * sz) rfl rfl (hM.sl 1 rfl) rfl (by omega) Tryz.underlying22 (by kernel_rfl)) rfl ?_
          refine H.take 7 rfl rfl (by kernel_rfl) (by kernel_rfl) (by kernel_rfl) hS (fun w' hS => by have hM := hM0.ext hS; exact Y.mv rfl) rfl ?_
          refine H.take 8 rfl rfl (by kernel_rfl) (by kernel_rfl) (by kernel_rfl) hS (fun w' hS => by have hM := hM0.ext hS; exact Y.mv rfl) rfl ?_
          refine H.take 9 rfl rfl (by kernel_rfl) (by kernel_rfl) (by kernel_rfl) hS (fun w' hS => by have hM := hM0.ext hS; exact Y.mv rfl) rfl ?_
          refine H.take 10 rfl rfl (by kernel_rfl) (by kernel_rfl) (by kernel_rfl) hS (fun w' hS => by have hM := hM0.ext hS; exact Y.mulN (a := y) (b := sz) rfl rfl (by omega)) rfl ?_
          refine H.take 11 rfl rfl (by kernel_rfl) (by kernel_rfl) (by kernel_rfl) hS (fun w' hS => by have hM := hM0.ext hS; exact Y.addN (a := y * sz) (b := 1) rfl rfl (by omega)) rfl ?_
          refine H.take 12 rfl rfl (by kernel_rfl) (by kernel_rfl) (by kernel_rfl) hS (fun w' hS => by have hM := hM0.ext hS; exact Y.mv rfl) rfl ?_
          refine H.take 13 rfl rfl (by kernel_rfl) (by kernel_rfl) (by kernel_rfl) hS (fun w' hS => by have hM := hM0.ext hS; exact Y.addN (a := y) (b := 1) rfl rfl (by omega)) rfl ?_
          refine H.take 14 rfl rfl (by kernel_rfl) (by kernel_rfl) (by kernel_rfl) hS (fun w' hS => by have hM := hM0.ext hS; exact Y.mv rfl) rfl ?_
          refine H.take 15 rfl rfl (by kernel_rfl) (by kernel_rfl) (by kernel_rfl) hS (fun w' hS => by have hM := hM0.ext hS; exact Y.mulN (a := y + 1) (b := sz) rfl rfl (by omega)) rfl ?_
          refine H.takeV 16 rfl rfl (by kernel_rfl) (by kernel_rfl) (by kernel_rfl) hS (Y.slcP (y * sz + 1) ((y + 1) * sz) rfl (.inl rfl) (.inl rfl) ((hM0.ext hS).sl 1 rfl) Tryz.underlying22 (by kernel_rfl) (by omega) (by omega)) (fun w' hS => by have hM := hM0.ext hS; exact Y.slcP (y * sz + 1) ((y + 1) * sz) rfl (.inl rfl) (.inl rfl) (hM.sl 1 rfl) Tryz.underlying22 (by kernel_rfl) (by omega) (by omega)) rfl ?_
          refine H.take 17 rfl rfl (by kernel_rfl) (by kernel_rfl) (by kernel_rfl) hS (fun w' hS => by have hM := hM0.ext hS; exact Y.mv rfl) rfl ?_
          refine H.only 5 rfl (by kernel_rfl) ?_
          refine E.load rfl Tryz.underlying5 rfl (RdL.cellA (l := out) (j := y * sz) ((hM0.ext hM.toExt).sl 1 rfl) rfl (by omega)) rfl ?_
          rw [u8c, at_get (show y * sz < out.length by omega)]
          have hS := hM.toExt
          refine H.back hS ?_
          refine H.takeV 6 rfl rfl (by kernel_rfl) (by kernel_rfl) (by kernel_rfl) hS (Y.conv rfl Tryz.underlying5 Tryz.underlying3 (IntWalk.i64_in _ (by omega))) (fun w' hS => by have hM := hM0.ext hS; exact Y.conv rfl Tryz.underlying5 Tryz.underlying3 (IntWalk.i64_in _ (by omega))) rfl ?_
          refine H.only 18 rfl (by kernel_rfl) ?_
          refine E.call rfl rfl (Unfilter_ret ((at_ out (y * sz)) : Int) _ vq (cutL (y * sz + 1) ((y + 1) * sz) out) prior _ ((RdL.partV (l := out) (a := y * sz + 1) (b := (y + 1) * sz) (hM0.sl 1 rfl) (by omega) (by omega)).ext hM.toExt) ((hM0.sl 4 rfl).ext hM.toExt) (by omega)) ?_
          rintro _ w17 ⟨v164, rfl, m⟩
          have hM := hM.call m
          try dsimp only [Za, Zb, Zc, Zd, repl] at hM
          have hS := hM.toExt
          refine H.back hS ?_
          refine H.take 19 rfl rfl (by kernel_rfl) (by kernel_rfl) (by kernel_rfl) hS (fun w' hS => by have hM := hM0.ext hS; exact Y.mv rfl) rfl ?_
          refine H.take 20 rfl rfl (by kernel_rfl) (by kernel_rfl) (by kernel_rfl) hS (fun w' hS => by have hM := hM0.ext hS; exact Y.ext rfl rfl) rfl ?_
          refine H.take 21 rfl rfl (by kernel_rfl) (by kernel_rfl) (by kernel_rfl) hS (fun w' hS => by have hM := hM0.ext hS; exact Y.ext rfl rfl) rfl ?_
          refine H.take 22 rfl rfl (by kernel_rfl) (by kernel_rfl) (by kernel_rfl) hS (fun w' hS => by have hM := hM0.ext hS; exact Y.asg rfl) rfl ?_
          refine H.take 23 rfl rfl (by kernel_rfl) (by kernel_rfl) (by kernel_rfl) hS (fun w' hS => by have hM := hM0.ext hS; exact Y.asg rfl) rfl ?_
          refine H.done (by kernel_rfl) ?_
          have hM := hM0.call hM
          refine X.next <| C.seq <| C.seq <| C.region <| E.mv rfl rfl <| E.bin rfl rfl rfl rfl <| E.nil <| X.next <| ?_
          refine C.cond' rfl (fun hC9 => ?_) (fun hC9 => ?_)
          ·
           have hE : 4 < (at_ out (y * sz)) := Decidable.byContradiction fun h => hC9 (by rw [apE, if_neg (by omega), if_neg (fun k => by rcases hpr with h2 | h2; exact k.1 h2; exact k.2 (by rw [h2, hcl]))])
           have hE2 : apE ((at_ out (y * sz)) : Int) (cutL (y * sz + 1) ((y + 1) * sz) out) prior = 37 := by rw [apE, if_pos (by omega)]
           rw [hE2]
           refine C.seq <| C.region <| ?_
           refine E.buildC (cs := [_, _, _]) [.int .i64 0, .int .i64 0, .slice none 0 0] [] rfl rfl (by kernel_rfl) rfl ?_
           refine E.mv rfl rfl <| ?_
           refine E.storeAM 0 hM rfl rfl rfl (by kernel_rfl) rfl (ones rfl <| ones rfl <| ones rfl <| ones_nil) ?_
           intro w19 hM
           try dsimp only [Za, Zb, Zc, Zd, repl] at hM
           refine E.asg rfl rfl <| E.nil <| X.next <| C.ret <| X.retT <| X.retB <| X.retT <| X.retT <| X.retB <| X.retT <| retAT rfl rfl rfl Tryz.underlying36 rfl (by exact hM.blk 0 rfl) (by kernel_rfl) ?_
           exact ⟨0, 0, nilS, [], 37, rfl, (hM.pick [] (by decide)).nil u8 5, .inr ⟨by decide, by rw [himg, rwk_f hR hE (by omega)], rfl, rfl, rfl⟩⟩
          ·
           have hE : apE ((at_ out (y * sz)) : Int) (cutL (y * sz + 1) ((y + 1) * sz) out) prior = 0 := Decidable.byContradiction hC9
           have hm5 : ¬ 4 < (at_ out (y * sz)) := fun h => by
            rw [apE, if_pos (by omega)] at hE; cases hE
           have hO2 : apO unf ((at_ out (y * sz)) : Int) (cutL (y * sz + 1) ((y + 1) * sz) out) prior = unf (at_ out (y * sz)) (cutL (y * sz + 1) ((y + 1) * sz) out) prior := by rw [apO, if_pos hE, Int.toNat_natCast]
           rw [hO2] at hM
           have hul := unf_len (at_ out (y * sz)) (cutL (y * sz + 1) ((y + 1) * sz) out) prior
           refine C.skip <| X.next <| C.seq <| C.region <| ?_
           refine E.fld (o := 2) (sz := 0) rfl Tryz.underlying36 rfl rfl (by kernel_rfl) rfl ?_
           refine E.load rfl Tryz.underlying22 rfl (hM.bcell 2 rfl rfl) rfl ?_
           refine E.mv rfl rfl <| E.mv rfl rfl <| E.mv rfl rfl <| ?_
           refine E.call rfl rfl (appendPixels_ret vx v164 pix (unf (at_ out (y * sz)) (cutL (y * sz + 1) ((y + 1) * sz) out) prior) wd d _ (hM.sep1 3 rfl) (hM.sl 5 rfl) (hM.offSl 5 3 (by decide) rfl rfl) hd4 (by omega) (by rw [← hq]; omega) (by omega)) ?_
           rintro v176 w19 m
           have hM := hM.call1 3 rfl (by simp) m
           try dsimp only [Za, Zb, Zc, Zd, repl] at hM
           refine E.fld (o := 2) (sz := 0) rfl Tryz.underlying36 rfl rfl (by kernel_rfl) rfl ?_
           refine E.storeM 2 hM rfl rfl rfl (by kernel_rfl) (hM.sl 3 rfl).one rfl ?_
           intro w21 hM
           try dsimp only [Za, Zb, Zc, Zd, repl] at hM
           refine E.nil <| X.next <| C.region <| E.mv rfl rfl <| E.asg rfl rfl <| E.nil <| X.outN <| X.next <| C.region <| ?_
           refine E.add rfl rfl (by omega) rfl ?_

           refine E.mv rfl rfl <| E.nil <| X.again5 (y + 1) v164 v176 _ _ (Sub.cons rfl <| Sub.cons rfl <| Sub.nil _) rfl ⟨hM.pick [0, 1, 2, 3, 5] (by decide), by omega, rwk_t hR hm5, by rw [List.length_append, vls_len, hpx, Nat.add_mul, Nat.one_mul], .inr (by rw [hul, hcl])⟩ (by omega)
         ·
          obtain rfl : y = ht := by omega
          rw [hR] at himg
          simp only at himg
          refine C.exit <| X.exitT <| X.exitT <| X.outE <| X.next <| C.seq <| C.region <| ?_
          refine E.loadA (cs := [i64 (wd : Int), i64 (y : Int), vx]) rfl Tryz.underlying36 rfl (by kernel_rfl) (hM.bat 2 rfl) rfl ?_
          refine E.storeAM 0 hM rfl rfl rfl (by kernel_rfl) rfl (ones rfl <| ones rfl <| ones (hM.sl 3 rfl).one <| ones_nil) ?_
          intro w22 hM
          try dsimp only [Za, Zb, Zc, Zd, repl] at hM
          refine E.asg rfl rfl <| E.nil <| X.next <| C.ret <| retAT rfl rfl rfl Tryz.underlying36 rfl (by exact hM.blk 0 rfl) (by kernel_rfl) ?_
          exact ⟨_, _, vx, pix, 0, rfl, hM.pick [3] (by decide), .inl ⟨wd, y, rfl, rfl, rfl, himg⟩⟩
end Go.Proofs.YtplbgehpohdmdaaGreatDoor
