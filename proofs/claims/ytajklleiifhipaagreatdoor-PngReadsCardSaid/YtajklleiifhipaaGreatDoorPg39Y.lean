/- chapter 35: PngReads. -/
import Derived.Test.YtajklleiifhipaaGreatDoorY0
import Derived.Test.YtajklleiifhipaaGreatDoorY5
import Derived.Test.YtajklleiifhipaaGreatDoorY23
import Derived.Test.YtajklleiifhipaaGreatDoorPg38Y
set_option linter.unusedSimpArgs false
set_option linter.unusedVariables false
namespace Go.Proofs.YtajklleiifhipaaGreatDoor
open Go.RowKit Sym
open Pg
theorem rdi_eq {r : Except Int (Nat × Nat × List UInt8)} {W1 H1 W2 H2 e1 e2 : Int} {p1 p2 : List UInt8} (h : RdiV r W1 H1 p1 e1) (k : RdiV r W2 H2 p2 e2) : W1 = W2 ∧ H1 = H2 ∧ p1 = p2 ∧ e1 = e2 := by
 rcases h with ⟨a, b, h1, h2, h3, h4⟩ | ⟨h1, h2, h3, h4, h5⟩ <;> rcases k with ⟨a', b', k1, k2, k3, k4⟩ | ⟨k1, k2, k3, k4, k5⟩
 · rw [h4] at k4; cases k4; exact ⟨h2.trans k2.symm, h3.trans k3.symm, rfl, h1.trans k1.symm⟩
 · rw [h4] at k2; cases k2
 · rw [h2] at k4; cases k4
 rw [h2] at k2; cases k2; exact ⟨h3.trans k3.symm, h4.trans k4.symm, h5.trans k5.symm, rfl⟩
set_option maxHeartbeats 1000000 in
theorem PngReads_ret (p : Value) (l : List UInt8) (w : World) (hp : RdL u8 w p l) (hO : Ord w) :
  Ret Tryz.prog 4 #[p] w fun v w' => v = .bool true ∧ Ext w w' := by
 have hM := M.start w
 refine enter Tryz.func4 rfl (by kernel_rfl) Tryz.ntmps4 rfl $ Kb $ Kc rfl $ C.seq $ Kb $ Km rfl $ E.lenv rfl (Rd.shape (hM.arg0 hp)) U22 rfl $ Kp rfl $ Ka $ C.cond' rfl (fun hC0 => ?_) (fun hC0 => ?_)
 ·
  refine Kb $ E.call rfl rfl (example_ret _ (hM.ord0 hO)) ?_
  rintro _ wz ⟨rfl, xz⟩
  have hM := hM.ext xz
  try dsimp only [Za, Zb, Zc, Zd, repl] at hM
  refine Kc rfl $ C.ret $ X.retT $ ret1 rfl rfl ?_
  exact ⟨rfl, hM.toExt⟩
 refine Kk $ Kb $ Km rfl $ E.call rfl rfl (Read_ret p l _ (hM.arg0 hp) (hM.ord0 hO)) ?_
 rintro _ wq1 ⟨W1, H1, v1, p1, e1, rfl, m1, hv1⟩
 have hM := hM.call m1
 try dsimp only [Za, Zb, Zc, Zd, repl] at hM
 refine Km rfl $ E.ext rfl rfl rfl $ E.ext rfl rfl rfl $ E.allocM (z := .agg #[.int .i64 0, .int .i64 0, .slice none 0 0]) (cs := [.int .i64 0, .int .i64 0, .slice none 0 0]) hM (by kernel_rfl) rfl rfl ?_
 intro b3 w2 hM
 try dsimp only [Za, Zb, Zc, Zd, repl] at hM
 refine E.storeAM 1 hM rfl rfl rfl (by kernel_rfl) rfl (ones rfl $ ones rfl $ ones (hM.sl 0 rfl).one $ ones_nil) ?_
 intro w3 hM
 try dsimp only [Za, Zb, Zc, Zd, repl] at hM
 refine Kd rfl $ Km rfl $ E.call rfl rfl (Read35_ret p l _ (hM.arg0 hp)) ?_
 rintro _ wq2 ⟨W2, H2, v2, p2, e2, rfl, m2, hv2⟩
 have hM := hM.call m2
 obtain ⟨rfl, rfl, rfl, rfl⟩ := rdi_eq hv1 hv2
 try dsimp only [Za, Zb, Zc, Zd, repl] at hM
 refine Km rfl $ E.ext rfl rfl rfl $ E.ext rfl rfl rfl $ E.allocM (z := .agg #[.int .i64 0, .int .i64 0, .slice none 0 0]) (cs := [.int .i64 0, .int .i64 0, .slice none 0 0]) hM (by kernel_rfl) rfl rfl ?_
 intro b5 w5 hM
 try dsimp only [Za, Zb, Zc, Zd, repl] at hM
 refine E.storeAM 3 hM rfl rfl rfl (by kernel_rfl) rfl (ones rfl $ ones rfl $ ones (hM.sl 2 rfl).one $ ones_nil) ?_
 intro w6 hM
 try dsimp only [Za, Zb, Zc, Zd, repl] at hM
 refine Kc rfl $ C.cut0 [] rfl [(2, .bool true)] (fun w' => M w (Nn) w' []) ?_ ?_
 ·
  refine C.region $ Kf rfl $ Kp rfl $ Km rfl $ E.split 24 rfl (fun g24 => ?_) (fun g24 => ?_)
  ·
   try simp only [Ya, Yb, Yc, Yd, Ye, Yf] at g24
   refine Ko rfl $ E.loadA (cs := [i64 W1, i64 H1, v1]) rfl U24 rfl (by kernel_rfl) (hM.bat 1 rfl) rfl $ Ko rfl $ E.loadA (cs := [i64 W1, i64 H1, v2]) rfl U24 rfl (by kernel_rfl) (hM.bat 3 rfl) rfl $ Ko rfl $ E.call rfl rfl (EqualImage_ret W1 H1 v1 p1 W1 H1 v2 p1 _ (hM.sl 0 rfl) (hM.sl 2 rfl)) ?_
   rintro _ w5 ⟨rfl, x5⟩
   have hM := hM.ext x5
   try dsimp only [Za, Zb, Zc, Zd, repl] at hM
   refine Kr rfl $ Km rfl $ E.split 29 rfl (fun g29 => ?_) (fun g29 => ?_)
   ·
    try simp only [Ya, Yb, Yc, Yd, Ye, Yf] at g29
    refine Ko rfl $ E.call rfl rfl (example_ret _ (hM.ord0 hO)) ?_
    rintro _ wz ⟨rfl, xz⟩
    have hM := hM.ext xz
    try dsimp only [Za, Zb, Zc, Zd, repl] at hM
    refine Kr rfl $ Kn rfl $ E.nil $ X.join0  (S1 rfl) rfl (hM.pick [] (by decide))
   try simp only [Ya, Yb, Yc, Yd, Ye, Yf] at g29
   simp at g29
  try simp only [Ya, Yb, Yc, Yd, Ye, Yf] at g24
  simp at g24
 rintro  w9 hM
 refine C.ret $ ret1 rfl rfl ?_
 exact ⟨rfl, hM.toExt⟩
end Go.Proofs.YtajklleiifhipaaGreatDoor
