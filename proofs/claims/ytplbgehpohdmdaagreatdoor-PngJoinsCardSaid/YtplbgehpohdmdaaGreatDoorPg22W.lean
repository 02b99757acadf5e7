/- chapter 35: PngJoins. -/
import Derived.Test.YtplbgehpohdmdaaGreatDoorW0
import Derived.Test.YtplbgehpohdmdaaGreatDoorPg10W
import Derived.Test.YtplbgehpohdmdaaGreatDoorPg20W
set_option linter.unusedSimpArgs false
set_option linter.unusedVariables false
namespace Go.Proofs.YtplbgehpohdmdaaGreatDoor
open Go.RowKit Sym
open Pg
theorem jnv_eq {r : Except Int (List UInt8)} {a b : List UInt8} {e f : Int} (h : JnV r a e) (k : JnV r b f) : a = b ∧ e = f := by
 rcases h with ⟨h1, h2⟩ | ⟨h1, h2, h3⟩ <;> rcases k with ⟨k1, k2⟩ | ⟨k1, k2, k3⟩ <;> rw [h2] at k2 <;> cases k2
 · exact ⟨rfl, h1.trans k1.symm⟩
 · exact ⟨h3.trans k3.symm, rfl⟩
set_option maxHeartbeats 1000000 in
theorem PngJoins_ret (p : Value) (hs : List Hd) (l : List Ck) (w : World) (hc : Cks w p hs l) (hO : Ord w) :
  Ret Tryz.prog 4 #[p] w fun v w' => v = .bool true ∧ Ext w w' := by
 have hM := M.start w
 refine enter Tryz.func4 rfl (by kernel_rfl) Tryz.ntmps4 rfl ?_
 refine C.seq <| C.region <| E.asg rfl rfl <| E.nil <| X.next <| C.seq <| C.seq <| C.region <| E.mv rfl rfl <| ?_
 refine E.call rfl rfl (few_ret p hs l _ (hc.ext hM.toExt)) ?_
 rintro _ w0 ⟨rfl, x0⟩
 have hM := hM.ext x0
 try dsimp only [Za, Zb, Zc, Zd, repl] at hM
 refine E.not rfl rfl <| E.nil <| X.next <| ?_
 refine C.cond rfl (fun hC0 => ?_) (fun hC0 => ?_)
 ·
  refine C.seq <| C.region <| ?_
  refine E.call rfl rfl (example_ret _ (hM.ord0 hO)) ?_
  rintro _ wz ⟨rfl, xz⟩
  have hM := hM.ext xz
  try dsimp only [Za, Zb, Zc, Zd, repl] at hM
  refine E.asg rfl rfl <| E.nil <| X.next <| C.ret <| X.retT <| ret1 rfl rfl ?_
  exact ⟨rfl, hM.toExt⟩
 ·
  have hf : Few l := by simpa using hC0
  refine C.skip <| X.next <| C.seq <| C.region <| E.mv rfl rfl <| ?_
  refine E.call rfl rfl (Join_ret p hs l _ (hc.ext hM.toExt) hf.bd) ?_
  rintro _ wj1 ⟨vj1, out1, f1, rfl, n1, hj1⟩
  have hM := hM.call n1
  skip
  try dsimp only [Za, Zb, Zc, Zd, repl] at hM
  refine E.mv rfl rfl <| E.ext rfl rfl rfl <| E.ext rfl rfl rfl <| E.asg rfl rfl <| E.asg rfl rfl <| E.nil <| X.next <| C.seq <| C.region <| E.mv rfl rfl <| ?_
  refine E.call rfl rfl (Join35_ret p hs l _ (hc.ext hM.toExt) hf.bd) ?_
  rintro _ wj2 ⟨vj2, out2, f2, rfl, x2, r2, hj2⟩
  have hM := hM.ext x2
  obtain ⟨rfl, rfl⟩ := jnv_eq hj1 hj2
  try dsimp only [Za, Zb, Zc, Zd, repl] at hM
  refine E.mv rfl rfl <| E.ext rfl rfl rfl <| E.ext rfl rfl rfl <| E.asg rfl rfl <| E.asg rfl rfl <| E.nil <| X.next <| ?_

  refine C.cut0 [] rfl [(2, .bool true)] (fun w' => M w (Nn) w' []) ?_ ?_
  ·
   refine C.region <| E.mv rfl rfl <| E.mv rfl rfl <| E.bin rfl rfl rfl rfl <| E.mv rfl rfl <| ?_
   refine E.split 24 rfl (fun g24 => ?_) (fun g24 => ?_)
   ·
    try simp only [Ya, Yb, Yc, Yd, Ye, Yf] at g24
    refine E.on rfl rfl (E.mv rfl rfl ?_)
    refine E.on rfl rfl (E.bstr rfl (hM.sl 0 rfl) Tryz.underlying22 Tryz.underlying5 Tryz.underlying9 rfl ?_)
    refine E.on rfl rfl (E.mv rfl rfl ?_)
    refine E.on rfl rfl (E.bstr rfl (r2) Tryz.underlying22 Tryz.underlying5 Tryz.underlying9 rfl ?_)
    refine E.on rfl rfl (E.eqstr (l := out1) (m := out1) rfl rfl rfl ?_)
    refine E.pick rfl rfl rfl <| E.mv rfl rfl <| ?_
    refine E.split 31 rfl (fun g31 => ?_) (fun g31 => ?_)
    ·
     try simp only [Ya, Yb, Yc, Yd, Ye, Yf] at g31
     refine E.on rfl rfl (E.call rfl rfl (example_ret _ (hM.ord0 hO)) ?_)
     rintro _ wz ⟨rfl, xz⟩
     have hM := hM.ext xz
     try dsimp only [Za, Zb, Zc, Zd, repl] at hM

     refine E.pick rfl rfl rfl <| E.asg rfl rfl <| E.nil <| X.join0  (Sub.cons rfl <| Sub.nil _) rfl (hM.pick [] (by decide))
    ·
     try simp only [Ya, Yb, Yc, Yd, Ye, Yf] at g31
     simp at g31
   ·
    try simp only [Ya, Yb, Yc, Yd, Ye, Yf] at g24
    simp at g24
  rintro  w5 hM
  refine C.ret <| ret1 rfl rfl ?_
  exact ⟨rfl, hM.toExt⟩
end Go.Proofs.YtplbgehpohdmdaaGreatDoor
