/- chapter 35: PngFilters. -/
import Derived.Test.YtplbgehpohdmdaaGreatDoorY0
import Derived.Test.YtplbgehpohdmdaaGreatDoorY27
import Derived.Test.YtplbgehpohdmdaaGreatDoorPg15Y
set_option linter.unusedSimpArgs false
set_option linter.unusedVariables false
namespace Go.Proofs.YtplbgehpohdmdaaGreatDoor
open Go.RowKit Sym
open Pg
set_option maxHeartbeats 1000000 in
theorem PngFilters_ret (m : Int) (p : Value) (row : List UInt8) (q : Value) (prior : List UInt8) (w : World) (hp : RdL u8 w p row) (hq : RdL u8 w q prior) (hO : Ord w) :
  Ret Tryz.prog 5 #[i64 m, p, q] w fun v w' => v = .bool true ∧ Ext w w' := by
 have hM := M.start w
 refine enter Tryz.func5 rfl (by kernel_rfl) Tryz.ntmps5 rfl ?_
 refine C.seq <| C.region <| E.asg rfl rfl <| E.nil <| X.next <| C.seq <| ?_

 refine C.chainE [(0, _), (1, _), (2, _)] rfl [(22, .bool (decide (300 < row.length ∨ 300 < prior.length)))] ?_ ?_
 ·
  refine C.region <| E.mv rfl rfl <| ?_
  refine E.lenv rfl (Rd.shape (hM.arg0 hp)) Tryz.underlying22 rfl ?_
  refine E.bin rfl rfl rfl rfl <| E.mv rfl rfl <| ?_
  refine E.split 18 rfl (fun g18 => ?_) (fun g18 => ?_)
  ·
   try simp only [Ya, Yb, Yc, Yd, Ye, Yf] at g18
   refine E.off rfl rfl rfl rfl <| E.off rfl rfl rfl rfl <| E.off rfl rfl rfl rfl <| E.pick rfl rfl rfl <| E.nil <| X.join0 (Sub.cons (look_eq rfl (congrArg Value.bool (by exact (decide_eq_true (p := 300 < row.length ∨ 300 < prior.length) (by omega)).symm))) <| Sub.nil _) rfl rfl
  ·
   try simp only [Ya, Yb, Yc, Yd, Ye, Yf] at g18
   refine E.on rfl rfl (E.mv rfl rfl ?_)
   refine E.on rfl rfl (E.lenv rfl (Rd.shape (hM.arg0 hq)) Tryz.underlying22 rfl ?_)
   refine E.on rfl rfl (E.bin rfl rfl rfl rfl ?_)
   refine E.pick rfl rfl rfl <| E.nil <| X.join0 (Sub.cons (look_eq rfl (congrArg Value.bool (by exact decide_eq_decide.2 ⟨fun h => by omega, fun h => by omega⟩))) <| Sub.nil _) rfl rfl
 refine C.cond' rfl (fun hC0 => ?_) (fun hC0 => ?_)
 ·
  refine C.seq <| C.region <| ?_
  refine E.call rfl rfl (example_ret _ (hM.ord0 hO)) ?_
  rintro _ wz ⟨rfl, xz⟩
  have hM := hM.ext xz
  try dsimp only [Za, Zb, Zc, Zd, repl] at hM
  refine E.asg rfl rfl <| E.nil <| X.next <| C.ret <| X.retT <| ret1 rfl rfl ?_
  exact ⟨rfl, hM.toExt⟩
 ·
  refine C.skip <| X.next <| C.seq <| C.region <| E.mv rfl rfl <| E.mv rfl rfl <| E.mv rfl rfl <| ?_
  refine E.call rfl rfl (Filter_ret m p q row prior _ (hM.arg0 hp) (hM.arg0 hq) (by omega)) ?_
  rintro _ w1 ⟨vo1, rfl, m1⟩
  have hM := hM.call m1
  try dsimp only [Za, Zb, Zc, Zd, repl] at hM
  refine E.mv rfl rfl <| E.ext rfl rfl rfl <| E.ext rfl rfl rfl <| E.asg rfl rfl <| E.asg rfl rfl <| E.nil <| X.next <| C.seq <| C.region <| E.mv rfl rfl <| E.mv rfl rfl <| E.mv rfl rfl <| ?_
  refine E.call rfl rfl (rFilter_ret m p q row prior _ (hM.arg0 hp) (hM.arg0 hq) (by omega)) ?_
  rintro _ w2 ⟨vo2, rfl, m2⟩
  have hM := hM.call m2
  try dsimp only [Za, Zb, Zc, Zd, repl] at hM
  refine E.mv rfl rfl <| E.ext rfl rfl rfl <| E.ext rfl rfl rfl <| E.asg rfl rfl <| E.asg rfl rfl <| E.nil <| X.next <| C.seq <| C.region <| E.mv rfl rfl <| E.mv rfl rfl <| E.mv rfl rfl <| ?_
  refine E.call rfl rfl (Unfilter_ret m p q row prior _ (hM.arg0 hp) (hM.arg0 hq) (by omega)) ?_
  rintro _ w3 ⟨vo3, rfl, m3⟩
  have hM := hM.call m3
  try dsimp only [Za, Zb, Zc, Zd, repl] at hM
  refine E.mv rfl rfl <| E.ext rfl rfl rfl <| E.ext rfl rfl rfl <| E.asg rfl rfl <| E.asg rfl rfl <| E.nil <| X.next <| C.seq <| C.region <| E.mv rfl rfl <| E.mv rfl rfl <| E.mv rfl rfl <| ?_
  refine E.call rfl rfl (rUnfilter_ret m p q row prior _ (hM.arg0 hp) (hM.arg0 hq) (by omega)) ?_
  rintro _ w4 ⟨vo4, rfl, m4⟩
  have hM := hM.call m4
  try dsimp only [Za, Zb, Zc, Zd, repl] at hM
  refine E.mv rfl rfl <| E.ext rfl rfl rfl <| E.ext rfl rfl rfl <| E.asg rfl rfl <| E.asg rfl rfl <| E.nil <| X.next <| ?_

  refine C.cut0 [] rfl [(6, .bool true)] (fun w' => M w (Nn) w' []) ?_ ?_
  ·
   refine C.region <| E.mv rfl rfl <| E.mv rfl rfl <| E.bin rfl rfl rfl rfl <| E.mv rfl rfl <| ?_
   refine E.split 55 rfl (fun g55 => ?_) (fun g55 => ?_)
   ·
    try simp only [Ya, Yb, Yc, Yd, Ye, Yf] at g55
    refine E.on rfl rfl (E.mv rfl rfl ?_)
    refine E.on rfl rfl (E.bstr rfl (hM.sl 0 rfl) Tryz.underlying22 Tryz.underlying5 Tryz.underlying9 rfl ?_)
    refine E.on rfl rfl (E.mv rfl rfl ?_)
    refine E.on rfl rfl (E.bstr rfl (hM.sl 1 rfl) Tryz.underlying22 Tryz.underlying5 Tryz.underlying9 rfl ?_)
    refine E.on rfl rfl (E.eqstr (l := apO fil m row prior) (m := apO fil m row prior) rfl rfl rfl ?_)
    refine E.pick rfl rfl rfl <| E.mv rfl rfl <| ?_
    refine E.split 62 rfl (fun g62 => ?_) (fun g62 => ?_)
    ·
     try simp only [Ya, Yb, Yc, Yd, Ye, Yf] at g62
     refine E.on rfl rfl (E.mv rfl rfl ?_)
     refine E.on rfl rfl (E.mv rfl rfl ?_)
     refine E.on rfl rfl (E.bin rfl rfl rfl rfl ?_)
     refine E.pick rfl rfl rfl <| E.mv rfl rfl <| ?_
     refine E.split 67 rfl (fun g67 => ?_) (fun g67 => ?_)
     ·
      try simp only [Ya, Yb, Yc, Yd, Ye, Yf] at g67
      refine E.on rfl rfl (E.mv rfl rfl ?_)
      refine E.on rfl rfl (E.bstr rfl (hM.sl 2 rfl) Tryz.underlying22 Tryz.underlying5 Tryz.underlying9 rfl ?_)
      refine E.on rfl rfl (E.mv rfl rfl ?_)
      refine E.on rfl rfl (E.bstr rfl (hM.sl 3 rfl) Tryz.underlying22 Tryz.underlying5 Tryz.underlying9 rfl ?_)
      refine E.on rfl rfl (E.eqstr (l := apO unf m row prior) (m := apO unf m row prior) rfl rfl rfl ?_)
      refine E.pick rfl rfl rfl <| E.mv rfl rfl <| ?_
      refine E.split 74 rfl (fun g74 => ?_) (fun g74 => ?_)
      ·
       try simp only [Ya, Yb, Yc, Yd, Ye, Yf] at g74
       refine E.on rfl rfl (E.call rfl rfl (example_ret _ (hM.ord0 hO)) ?_)
       rintro _ wz ⟨rfl, xz⟩
       have hM := hM.ext xz
       try dsimp only [Za, Zb, Zc, Zd, repl] at hM

       refine E.pick rfl rfl rfl <| E.asg rfl rfl <| E.nil <| X.join0  (Sub.cons rfl <| Sub.nil _) rfl (hM.pick [] (by decide))
      ·
       try simp only [Ya, Yb, Yc, Yd, Ye, Yf] at g74
       simp at g74
     ·
      try simp only [Ya, Yb, Yc, Yd, Ye, Yf] at g67
      simp at g67
    ·
     try simp only [Ya, Yb, Yc, Yd, Ye, Yf] at g62
     simp at g62
   ·
    try simp only [Ya, Yb, Yc, Yd, Ye, Yf] at g55
    simp at g55
  rintro  w6 hM
  refine C.ret <| ret1 rfl rfl ?_
  exact ⟨rfl, hM.toExt⟩
end Go.Proofs.YtplbgehpohdmdaaGreatDoor
