/- chapter 35: PngRoundTrip. -/
import Derived.Test.YtplbgehpohdmdaaGreatDoorY0
import Derived.Test.YtplbgehpohdmdaaGreatDoorY27
set_option linter.unusedSimpArgs false
set_option linter.unusedVariables false
namespace Go.Proofs.YtplbgehpohdmdaaGreatDoor
open Go.RowKit Sym
open Pg
theorem rfits_ret (W H : Int) (w : World) :
  Ret Tryz.prog 71 #[i64 W, i64 H] w fun v w' => v = .bool (decide (1 ≤ W ∧ W ≤ 4096 ∧ 1 ≤ H ∧ H ≤ 4096 ∧ W * H ≤ 4194304)) ∧ Ext w w' := by
 have hM := M.start w
 refine enter Tryz.func71 rfl (by kernel_rfl) Tryz.ntmps71 rfl ?_
 refine C.seq <| C.region <| E.asg rfl rfl <| E.nil <| X.next <| ?_

 refine C.chainE [] rfl [(4, .bool (decide (1 ≤ W ∧ W ≤ 4096 ∧ 1 ≤ H ∧ H ≤ 4096 ∧ W * H ≤ 4194304)))] ?_ ?_
 ·
  refine C.region <| E.mv rfl rfl <| E.bin rfl rfl rfl rfl <| E.mv rfl rfl <| ?_
  refine E.split 7 rfl (fun g7 => ?_) (fun g7 => ?_)
  ·
   try simp only [Ya, Yb, Yc, Yd, Ye, Yf] at g7
   refine E.on rfl rfl (E.mv rfl rfl ?_)
   refine E.on rfl rfl (E.bin rfl rfl rfl rfl ?_)
   refine E.pick rfl rfl rfl <| E.mv rfl rfl <| ?_
   refine E.split 11 rfl (fun g11 => ?_) (fun g11 => ?_)
   ·
    try simp only [Ya, Yb, Yc, Yd, Ye, Yf] at g11
    refine E.on rfl rfl (E.mv rfl rfl ?_)
    refine E.on rfl rfl (E.bin rfl rfl rfl rfl ?_)
    refine E.pick rfl rfl rfl <| E.mv rfl rfl <| ?_
    refine E.split 15 rfl (fun g15 => ?_) (fun g15 => ?_)
    ·
     try simp only [Ya, Yb, Yc, Yd, Ye, Yf] at g15
     refine E.on rfl rfl (E.mv rfl rfl ?_)
     refine E.on rfl rfl (E.bin rfl rfl rfl rfl ?_)
     refine E.pick rfl rfl rfl <| E.mv rfl rfl <| ?_
     refine E.split 19 rfl (fun g19 => ?_) (fun g19 => ?_)
     ·
      try simp only [Ya, Yb, Yc, Yd, Ye, Yf] at g19
      have hms := mul_small (a := W) (b := H) (by omega) (by omega) (by omega) (by omega)
      refine E.on rfl rfl (E.mv rfl rfl ?_)
      refine E.on rfl rfl (E.mv rfl rfl ?_)
      refine E.on rfl rfl (E.mul rfl rfl (by omega) rfl ?_)
      refine E.on rfl rfl (E.bin rfl rfl rfl rfl ?_)
      refine E.pick rfl rfl rfl <| E.asg rfl rfl <| E.nil <| X.join0 (Sub.cons (look_eq rfl (congrArg Value.bool (by exact decide_eq_decide.2 ⟨fun h => by omega, fun h => by omega⟩))) <| Sub.nil _) rfl rfl
     ·
      try simp only [Ya, Yb, Yc, Yd, Ye, Yf] at g19
      refine E.off rfl rfl rfl rfl <| E.off rfl rfl rfl rfl <| E.off rfl rfl rfl rfl <| E.off rfl rfl rfl rfl <| E.pick rfl rfl rfl <| E.asg rfl rfl <| E.nil <| X.join0 (Sub.cons (look_eq rfl (congrArg Value.bool (by exact (decide_eq_false (p := 1 ≤ W ∧ W ≤ 4096 ∧ 1 ≤ H ∧ H ≤ 4096 ∧ W * H ≤ 4194304) (by omega)).symm))) <| Sub.nil _) rfl rfl
    ·
     try simp only [Ya, Yb, Yc, Yd, Ye, Yf] at g15
     refine E.off rfl rfl rfl rfl <| E.off rfl rfl rfl rfl <| E.pick rfl rfl rfl <| E.mv rfl rfl <| E.off rfl rfl rfl rfl <| E.off rfl rfl rfl rfl <| E.off rfl rfl rfl rfl <| E.off rfl rfl rfl rfl <| E.pick rfl rfl rfl <| E.asg rfl rfl <| E.nil <| X.join0 (Sub.cons (look_eq rfl (congrArg Value.bool (by exact (decide_eq_false (p := 1 ≤ W ∧ W ≤ 4096 ∧ 1 ≤ H ∧ H ≤ 4096 ∧ W * H ≤ 4194304) (by omega)).symm))) <| Sub.nil _) rfl rfl
   ·
    try simp only [Ya, Yb, Yc, Yd, Ye, Yf] at g11
    refine E.off rfl rfl rfl rfl <| E.off rfl rfl rfl rfl <| E.pick rfl rfl rfl <| E.mv rfl rfl <| E.off rfl rfl rfl rfl <| E.off rfl rfl rfl rfl <| E.pick rfl rfl rfl <| E.mv rfl rfl <| E.off rfl rfl rfl rfl <| E.off rfl rfl rfl rfl <| E.off rfl rfl rfl rfl <| E.off rfl rfl rfl rfl <| E.pick rfl rfl rfl <| E.asg rfl rfl <| E.nil <| X.join0 (Sub.cons (look_eq rfl (congrArg Value.bool (by exact (decide_eq_false (p := 1 ≤ W ∧ W ≤ 4096 ∧ 1 ≤ H ∧ H ≤ 4096 ∧ W * H ≤ 4194304) (by omega)).symm))) <| Sub.nil _) rfl rfl
  ·
   try simp only [Ya, Yb, Yc, Yd, Ye, Yf] at g7
   refine E.off rfl rfl rfl rfl <| E.off rfl rfl rfl rfl <| E.pick rfl rfl rfl <| E.mv rfl rfl <| E.off rfl rfl rfl rfl <| E.off rfl rfl rfl rfl <| E.pick rfl rfl rfl <| E.mv rfl rfl <| E.off rfl rfl rfl rfl <| E.off rfl rfl rfl rfl <| E.pick rfl rfl rfl <| E.mv rfl rfl <| E.off rfl rfl rfl rfl <| E.off rfl rfl rfl rfl <| E.off rfl rfl rfl rfl <| E.off rfl rfl rfl rfl <| E.pick rfl rfl rfl <| E.asg rfl rfl <| E.nil <| X.join0 (Sub.cons (look_eq rfl (congrArg Value.bool (by exact (decide_eq_false (p := 1 ≤ W ∧ W ≤ 4096 ∧ 1 ≤ H ∧ H ≤ 4096 ∧ W * H ≤ 4194304) (by omega)).symm))) <| Sub.nil _) rfl rfl
 refine C.ret <| ret1 rfl rfl ?_
 exact ⟨rfl, hM.toExt⟩
theorem rValid_ret (W H : Int) (vp : Value) (pix : List UInt8) (w : World) (hp : RdL u8 w vp pix) :
  Ret Tryz.prog 55 #[imv W H vp] w fun v w' => v = .bool (decide (vld W H pix.length)) ∧ Ext w w' := by
 have hM := M.start w
 refine enter Tryz.func55 rfl (by kernel_rfl) Tryz.ntmps55 rfl ?_
 refine C.seq <| C.region <| ?_
 refine E.boxM hM rfl rfl rfl ?_
 intro b1 w0 hM
 try dsimp only [Za, Zb, Zc, Zd, repl] at hM
 refine E.asg rfl rfl <| E.nil <| X.next <| ?_

 refine C.cut0 [] rfl [(2, .bool (decide (vld W H pix.length)))] (fun w' => M w (Nn) w' []) ?_ ?_
 ·
  refine C.region <| ?_
  refine E.fld (o := 0) (sz := 0) rfl Tryz.underlying36 rfl rfl (by kernel_rfl) rfl ?_
  refine E.load rfl Tryz.underlying3 rfl (hM.bcell 0 rfl rfl) rfl ?_
  refine E.fld (o := 1) (sz := 0) rfl Tryz.underlying36 rfl rfl (by kernel_rfl) rfl ?_
  refine E.load rfl Tryz.underlying3 rfl (hM.bcell 0 rfl rfl) rfl ?_
  refine E.call rfl rfl (rfits_ret W H _) ?_
  rintro _ w1 ⟨rfl, x1⟩
  have hM := hM.ext x1
  try dsimp only [Za, Zb, Zc, Zd, repl] at hM
  refine E.mv rfl rfl <| ?_
  refine E.split 8 rfl (fun g8 => ?_) (fun g8 => ?_)
  ·
   try simp only [Ya, Yb, Yc, Yd, Ye, Yf] at g8
   have g8' : 1 ≤ W ∧ W ≤ 4096 ∧ 1 ≤ H ∧ H ≤ 4096 ∧ W * H ≤ 4194304 := by simpa using g8
   have hms := mul_small (a := W) (b := H) (by omega) (by omega) (by omega) (by omega)
   refine E.on rfl rfl (E.fld (o := 2) (sz := 0) rfl Tryz.underlying36 rfl rfl (by kernel_rfl) rfl ?_)
   refine E.on rfl rfl (E.load rfl Tryz.underlying22 rfl (hM.bcell 0 rfl rfl) rfl ?_)
   refine E.on rfl rfl (E.lenv rfl (Rd.shape (hM.arg0 hp)) Tryz.underlying22 rfl ?_)
   refine E.on rfl rfl (E.fld (o := 0) (sz := 0) rfl Tryz.underlying36 rfl rfl (by kernel_rfl) rfl ?_)
   refine E.on rfl rfl (E.load rfl Tryz.underlying3 rfl (hM.bcell 0 rfl rfl) rfl ?_)
   refine E.on rfl rfl (E.fld (o := 1) (sz := 0) rfl Tryz.underlying36 rfl rfl (by kernel_rfl) rfl ?_)
   refine E.on rfl rfl (E.load rfl Tryz.underlying3 rfl (hM.bcell 0 rfl rfl) rfl ?_)
   refine E.on rfl rfl (E.mul rfl rfl (by omega) rfl ?_)
   refine E.on rfl rfl (E.bin rfl rfl rfl rfl ?_)

   refine E.pick rfl rfl rfl <| E.asg rfl rfl <| E.nil <| X.join0  (Sub.cons (look_eq rfl (congrArg Value.bool (decide_eq_decide.2 ⟨fun h => ⟨g8'.1, g8'.2.1, g8'.2.2.1, g8'.2.2.2.1, g8'.2.2.2.2, h⟩, fun h => h.2.2.2.2.2⟩))) <| Sub.nil _) rfl (hM.pick [] (by decide))
  ·
   try simp only [Ya, Yb, Yc, Yd, Ye, Yf] at g8
   have g8' : ¬ (1 ≤ W ∧ W ≤ 4096 ∧ 1 ≤ H ∧ H ≤ 4096 ∧ W * H ≤ 4194304) := by simpa using g8

   refine E.off rfl rfl rfl rfl <| E.off rfl rfl rfl rfl <| E.off rfl rfl rfl rfl <| E.off rfl rfl rfl rfl <| E.off rfl rfl rfl rfl <| E.off rfl rfl rfl rfl <| E.off rfl rfl rfl rfl <| E.off rfl rfl rfl rfl <| E.off rfl rfl rfl rfl <| E.pick rfl rfl rfl <| E.asg rfl rfl <| E.nil <| X.join0  (Sub.cons (look_eq rfl (congrArg Value.bool (decide_eq_false (p := vld W H pix.length) (fun h => g8' ⟨h.1, h.2.1, h.2.2.1, h.2.2.2.1, h.2.2.2.2.1⟩)).symm)) <| Sub.nil _) rfl (hM.pick [] (by decide))
 rintro  w2 hM
 refine C.ret <| ret1 rfl rfl ?_
 exact ⟨rfl, hM.toExt⟩
theorem rCheckImage_ret (W H : Int) (vp : Value) (pix : List UInt8) (w : World) (hp : RdL u8 w vp pix) :
  Ret Tryz.prog 28 #[imv W H vp] w fun v w' => v = i64 (if vld W H pix.length then 0 else 1) ∧ Ext w w' := by
 have hM := M.start w
 refine enter Tryz.func28 rfl (by kernel_rfl) Tryz.ntmps28 rfl ?_
 refine C.seq <| C.region <| ?_
 refine E.boxM hM rfl rfl rfl ?_
 intro b1 w0 hM
 try dsimp only [Za, Zb, Zc, Zd, repl] at hM
 refine E.asg rfl rfl <| E.nil <| X.next <| C.seq <| C.seq <| C.region <| ?_
 refine E.loadA (cs := [i64 W, i64 H, vp]) rfl Tryz.underlying36 rfl (by kernel_rfl) (hM.bat 0 rfl) rfl ?_
 refine E.call rfl rfl (rValid_ret W H vp pix _ (hM.arg0 hp)) ?_
 rintro _ w1 ⟨rfl, x1⟩
 have hM := hM.ext x1
 try dsimp only [Za, Zb, Zc, Zd, repl] at hM
 refine E.not rfl rfl <| E.nil <| X.next <| ?_
 refine C.cond rfl (fun hC0 => ?_) (fun hC0 => ?_)
 ·
  have h0 : ¬ vld W H pix.length := by simpa using hC0
  refine C.seq <| C.region <| E.asg rfl rfl <| E.nil <| X.next <| C.ret <| X.retT <| ret1 rfl rfl ?_
  exact ⟨by rw [if_neg h0], hM.toExt⟩
 ·
  have h0 : vld W H pix.length := by simpa using hC0
  refine C.skip <| X.next <| C.seq <| C.region <| E.asg rfl rfl <| E.nil <| X.next <| C.ret <| ret1 rfl rfl ?_
  exact ⟨by rw [if_pos h0], hM.toExt⟩
set_option maxHeartbeats 1000000 in
theorem PngRoundTrip_ret (W H : Int) (vp : Value) (pix : List UInt8) (w : World) (hp : RdL u8 w vp pix) (hO : Ord w) :
  Ret Tryz.prog 8 #[imv W H vp] w fun v w' => v = .bool true ∧ Ext w w' := by
 have hM := M.start w
 refine enter Tryz.func8 rfl (by kernel_rfl) Tryz.ntmps8 rfl ?_
 refine C.seq <| C.region <| ?_
 refine E.boxM hM rfl rfl rfl ?_
 intro b1 w0 hM
 try dsimp only [Za, Zb, Zc, Zd, repl] at hM
 refine E.asg rfl rfl <| E.nil <| X.next <| C.seq <| ?_

 refine C.cut0 [(1, _)] rfl [(15, .bool (decide (¬ (pix.length ≤ 3000 ∧ vld W H pix.length))))] (fun w' => M w (Nn) w' [Rg.blk b1 36 [i64 W, i64 H, vp]]) ?_ ?_
 ·
  refine C.region <| ?_
  refine E.fld (o := 2) (sz := 0) rfl Tryz.underlying36 rfl rfl (by kernel_rfl) rfl ?_
  refine E.load rfl Tryz.underlying22 rfl (hM.bcell 0 rfl rfl) rfl ?_
  refine E.lenv rfl (Rd.shape (hM.arg0 hp)) Tryz.underlying22 rfl ?_
  refine E.bin rfl rfl rfl rfl <| E.mv rfl rfl <| ?_
  refine E.split 11 rfl (fun g11 => ?_) (fun g11 => ?_)
  ·
   try simp only [Ya, Yb, Yc, Yd, Ye, Yf] at g11

   refine E.off rfl rfl rfl rfl <| E.off rfl rfl rfl rfl <| E.off rfl rfl rfl rfl <| E.pick rfl rfl rfl <| E.nil <| X.join0  (Sub.cons (look_eq rfl (congrArg Value.bool (decide_eq_true (p := ¬ (pix.length ≤ 3000 ∧ vld W H pix.length)) (fun h => by have := h.1; omega)).symm)) <| Sub.nil _) rfl hM
  ·
   try simp only [Ya, Yb, Yc, Yd, Ye, Yf] at g11
   refine E.on rfl rfl (E.loadA (cs := [i64 W, i64 H, vp]) rfl Tryz.underlying36 rfl (by kernel_rfl) (hM.bat 0 rfl) rfl ?_)
   refine E.on rfl rfl (E.call rfl rfl (rCheckImage_ret W H vp pix _ (hM.arg0 hp)) ?_)
   rintro _ w1 ⟨rfl, x1⟩
   have hM := hM.ext x1
   try dsimp only [Za, Zb, Zc, Zd, repl] at hM
   refine E.on rfl rfl (E.bin rfl rfl rfl rfl ?_)

   refine E.pick rfl rfl rfl <| E.nil <| X.join0  (Sub.cons (look_eq rfl (congrArg Value.bool (decide_eq_decide.2 ⟨fun h k => h (by rw [if_pos k.2]), fun h e => h ⟨by omega, Decidable.byContradiction fun k => by rw [if_neg k] at e; cases e⟩⟩))) <| Sub.nil _) rfl hM
 rintro  w2 hM
 refine C.cond' rfl (fun hC0 => ?_) (fun hC0 => ?_)
 ·
  refine C.seq <| C.region <| ?_
  refine E.call rfl rfl (example_ret _ (hM.ord0 hO)) ?_
  rintro _ wz ⟨rfl, xz⟩
  have hM := hM.ext xz
  try dsimp only [Za, Zb, Zc, Zd, repl] at hM
  refine E.asg rfl rfl <| E.nil <| X.next <| C.ret <| X.retT <| ret1 rfl rfl ?_
  exact ⟨rfl, hM.toExt⟩
 ·
  obtain ⟨hsm, hv⟩ := Decidable.not_not.1 hC0
  obtain ⟨v1, v2, v3, v4, v5, v6⟩ := id hv
  obtain ⟨wd, rfl⟩ : ∃ n : Nat, W = (n : Int) := ⟨W.toNat, by omega⟩
  obtain ⟨ht, rfl⟩ : ∃ n : Nat, H = (n : Int) := ⟨H.toNat, by omega⟩
  have hn : pix.length = wd * ht := Int.ofNat.inj (v6.trans (Int.natCast_mul wd ht).symm)
  obtain ⟨s1, s2, s3, s4⟩ := dta_small hn (by omega) (by omega) (by omega)
  have hrt := rdi_wri hn (by omega) (by omega) hsm
  refine C.skip <| X.next <| C.seq <| C.region <| ?_
  refine E.loadA (cs := [i64 (wd : Int), i64 (ht : Int), vp]) rfl Tryz.underlying36 rfl (by kernel_rfl) (hM.bat 0 rfl) rfl ?_
  refine E.call rfl rfl (Write_ret (wd : Int) (ht : Int) vp pix _ (hM.arg0 hp) (by omega) (hM.ord0 hO)) ?_
  rintro _ wq1 ⟨vw, outw, ew, rfl, mw, hw⟩
  have hM := hM.call mw
  obtain ⟨rfl, rfl⟩ : 0 = ew ∧ wri wd ht pix = outw := by
   rcases hw with ⟨_, h1, h2⟩ | ⟨h1, _⟩
   · exact ⟨h1.symm, by rw [h2, Int.toNat_natCast, Int.toNat_natCast]⟩
   · exact (h1 hv).elim
  skip
  try dsimp only [Za, Zb, Zc, Zd, repl] at hM
  refine E.mv rfl rfl <| E.ext rfl rfl rfl <| E.ext rfl rfl rfl <| E.asg rfl rfl <| E.asg rfl rfl <| E.nil <| X.next <| C.seq <| C.region <| E.mv rfl rfl <| ?_
  refine E.call rfl rfl (Read_ret vw (wri wd ht pix) _ (hM.sl 1 rfl) (hM.ord0 hO)) ?_
  rintro _ wr2 ⟨Wr, Hr, vr, pr_, er, rfl, mr, hvr⟩
  have hM := hM.call mr
  obtain ⟨rfl, rfl, rfl, rfl⟩ : 0 = er ∧ (wd : Int) = Wr ∧ (ht : Int) = Hr ∧ pix = pr_ := by
   rw [hrt] at hvr
   rcases hvr with ⟨a, b, h1, h2, h3, h4⟩ | ⟨_, h2, _⟩
   · cases h4; exact ⟨h1.symm, h2.symm, h3.symm, rfl⟩
   · cases h2
  try dsimp only [Za, Zb, Zc, Zd, repl] at hM
  refine E.mv rfl rfl <| E.ext rfl rfl rfl <| E.ext rfl rfl rfl <| ?_
  refine E.allocM (z := .agg #[.int .i64 0, .int .i64 0, .slice none 0 0]) (cs := [.int .i64 0, .int .i64 0, .slice none 0 0]) hM (by kernel_rfl) rfl rfl ?_
  intro b5 w6 hM
  try dsimp only [Za, Zb, Zc, Zd, repl] at hM
  refine E.storeAM 3 (cs := [i64 (wd : Int), i64 (ht : Int), vr]) hM rfl rfl rfl (by kernel_rfl) rfl (ones rfl <| ones rfl <| ones (hM.sl 2 rfl).one <| ones_nil) ?_
  intro w7 hM
  try dsimp only [Za, Zb, Zc, Zd, repl] at hM
  refine E.asg rfl rfl <| E.nil <| X.next <| ?_

  refine C.cut0 [] rfl [(2, .bool true)] (fun w' => M w (Nn) w' []) ?_ ?_
  ·
   refine C.region <| E.mv rfl rfl <| E.bin rfl rfl rfl rfl <| E.mv rfl rfl <| ?_
   refine E.split 29 rfl (fun g29 => ?_) (fun g29 => ?_)
   ·
    try simp only [Ya, Yb, Yc, Yd, Ye, Yf] at g29
    refine E.on rfl rfl (E.mv rfl rfl ?_)
    refine E.on rfl rfl (E.bin rfl rfl rfl rfl ?_)
    refine E.pick rfl rfl rfl <| E.mv rfl rfl <| ?_
    refine E.split 33 rfl (fun g33 => ?_) (fun g33 => ?_)
    ·
     try simp only [Ya, Yb, Yc, Yd, Ye, Yf] at g33
     refine E.on rfl rfl (E.loadA (cs := [i64 (wd : Int), i64 (ht : Int), vr]) rfl Tryz.underlying36 rfl (by kernel_rfl) (hM.bat 3 rfl) rfl ?_)
     refine E.on rfl rfl (E.loadA (cs := [i64 (wd : Int), i64 (ht : Int), vp]) rfl Tryz.underlying36 rfl (by kernel_rfl) (hM.bat 0 rfl) rfl ?_)
     refine E.on rfl rfl (E.call rfl rfl (EqualImage_ret (wd : Int) (ht : Int) vr pix (wd : Int) (ht : Int) vp pix _ (hM.sl 2 rfl) (hM.arg0 hp)) ?_)
     rintro _ w8 ⟨rfl, x8⟩
     have hM := hM.ext x8
     try dsimp only [Za, Zb, Zc, Zd, repl] at hM
     refine E.pick rfl rfl rfl <| E.mv rfl rfl <| ?_
     refine E.split 38 rfl (fun g38 => ?_) (fun g38 => ?_)
     ·
      try simp only [Ya, Yb, Yc, Yd, Ye, Yf] at g38
      refine E.on rfl rfl (E.call rfl rfl (example_ret _ (hM.ord0 hO)) ?_)
      rintro _ wz ⟨rfl, xz⟩
      have hM := hM.ext xz
      try dsimp only [Za, Zb, Zc, Zd, repl] at hM

      refine E.pick rfl rfl rfl <| E.asg rfl rfl <| E.nil <| X.join0  (Sub.cons rfl <| Sub.nil _) rfl (hM.pick [] (by decide))
     ·
      try simp only [Ya, Yb, Yc, Yd, Ye, Yf] at g38
      simp at g38
    ·
     try simp only [Ya, Yb, Yc, Yd, Ye, Yf] at g33
     simp at g33
   ·
    try simp only [Ya, Yb, Yc, Yd, Ye, Yf] at g29
    simp at g29
  rintro  w10 hM
  refine C.ret <| ret1 rfl rfl ?_
  exact ⟨rfl, hM.toExt⟩
end Go.Proofs.YtplbgehpohdmdaaGreatDoor
