/- chapter 35: PngChunks. -/
import Derived.Test.YtplbgehpohdmdaaGreatDoorW0
import Derived.Test.YtplbgehpohdmdaaGreatDoorPg10W
import Derived.Test.YtplbgehpohdmdaaGreatDoorPg19W
set_option linter.unusedSimpArgs false
set_option linter.unusedVariables false
namespace Go.Proofs.YtplbgehpohdmdaaGreatDoor
open Go.RowKit Sym
open Pg
theorem chsv_eq {r : Except Int (List Ck)} {a b : List Ck} {e f : Int} (h : ChsV r a e) (k : ChsV r b f) : a = b ∧ e = f := by
 rcases h with ⟨h1, h2⟩ | ⟨h1, h2, h3⟩ <;> rcases k with ⟨k1, k2⟩ | ⟨k1, k2, k3⟩ <;> rw [h2] at k2 <;> cases k2
 · exact ⟨rfl, h1.trans k1.symm⟩
 · exact ⟨h3.trans k3.symm, rfl⟩
set_option maxHeartbeats 1000000 in
theorem PngChunks_ret (p : Value) (l : List UInt8) (w : World) (hp : RdL u8 w p l) (hO : Ord w) :
  Ret Tryz.prog 3 #[p] w fun v w' => v = .bool true ∧ Ext w w' := by
 have hM := M.start w
 refine enter Tryz.func3 rfl (by kernel_rfl) Tryz.ntmps3 rfl ?_
 refine C.seq <| C.region <| E.asg rfl rfl <| E.nil <| X.next <| C.seq <| C.seq <| C.region <| E.mv rfl rfl <| ?_
 refine E.lenv rfl (Rd.shape (hM.arg0 hp)) Tryz.underlying22 rfl ?_
 refine E.bin rfl rfl rfl rfl <| E.nil <| X.next <| ?_
 refine C.cond' rfl (fun hC0 => ?_) (fun hC0 => ?_)
 ·
  refine C.seq <| C.region <| ?_
  refine E.call rfl rfl (example_ret _ (hM.ord0 hO)) ?_
  rintro _ wz ⟨rfl, xz⟩
  have hM := hM.ext xz
  try dsimp only [Za, Zb, Zc, Zd, repl] at hM
  refine E.asg rfl rfl <| E.nil <| X.next <| C.ret <| X.retT <| ret1 rfl rfl ?_
  exact ⟨rfl, hM.toExt⟩
 ·
  refine C.skip <| X.next <| C.seq <| C.region <| E.mv rfl rfl <| ?_
  refine E.call rfl rfl (Chunks_ret p l _ (hM.arg0 hp)) ?_
  rintro _ wc1 ⟨vc1, hs1, cs1, e1, rfl, m1, hv1⟩
  have hM := hM.call m1
  skip
  try dsimp only [Za, Zb, Zc, Zd, repl] at hM
  refine E.mv rfl rfl <| E.ext rfl rfl rfl <| E.ext rfl rfl rfl <| E.asg rfl rfl <| E.asg rfl rfl <| E.nil <| X.next <| C.seq <| C.region <| E.mv rfl rfl <| ?_
  refine E.call rfl rfl (Chunks35_ret p l _ (hM.arg0 hp)) ?_
  rintro _ wc2 ⟨vc2, hs2, cs2, e2, rfl, m2, hv2⟩
  have hM := hM.call m2
  obtain ⟨rfl, rfl⟩ := chsv_eq hv1 hv2
  try dsimp only [Za, Zb, Zc, Zd, repl] at hM
  refine E.mv rfl rfl <| E.ext rfl rfl rfl <| E.ext rfl rfl rfl <| E.asg rfl rfl <| E.asg rfl rfl <| E.nil <| X.next <| ?_

  refine C.cut0 [] rfl [(2, .bool true)] (fun w' => M w (Nn) w' []) ?_ ?_
  ·
   refine C.region <| E.mv rfl rfl <| E.mv rfl rfl <| E.bin rfl rfl rfl rfl <| E.mv rfl rfl <| ?_
   refine E.split 24 rfl (fun g24 => ?_) (fun g24 => ?_)
   ·
    try simp only [Ya, Yb, Yc, Yd, Ye, Yf] at g24
    refine E.on rfl rfl (E.mv rfl rfl ?_)
    refine E.on rfl rfl (E.mv rfl rfl ?_)
    refine E.on rfl rfl (E.call rfl rfl (Same_ret vc1 hs1 cs1 vc2 hs2 cs1 _ (hM.cks 0 1 rfl rfl) (hM.cks 2 3 rfl rfl)) ?_)
    rintro _ w5 ⟨rfl, x5⟩
    have hM := hM.ext x5
    try dsimp only [Za, Zb, Zc, Zd, repl] at hM
    refine E.pick rfl rfl rfl <| E.mv rfl rfl <| ?_
    refine E.split 29 rfl (fun g29 => ?_) (fun g29 => ?_)
    ·
     try simp only [Ya, Yb, Yc, Yd, Ye, Yf] at g29
     refine E.on rfl rfl (E.call rfl rfl (example_ret _ (hM.ord0 hO)) ?_)
     rintro _ wz ⟨rfl, xz⟩
     have hM := hM.ext xz
     try dsimp only [Za, Zb, Zc, Zd, repl] at hM

     refine E.pick rfl rfl rfl <| E.asg rfl rfl <| E.nil <| X.join0  (Sub.cons rfl <| Sub.nil _) rfl (hM.pick [] (by decide))
    ·
     try simp only [Ya, Yb, Yc, Yd, Ye, Yf] at g29
     simp at g29
   ·
    try simp only [Ya, Yb, Yc, Yd, Ye, Yf] at g24
    simp at g24
  rintro  w5 hM
  refine C.ret <| ret1 rfl rfl ?_
  exact ⟨rfl, hM.toExt⟩
end Go.Proofs.YtplbgehpohdmdaaGreatDoor
