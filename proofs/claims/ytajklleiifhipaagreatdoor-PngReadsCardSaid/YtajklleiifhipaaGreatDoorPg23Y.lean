/- chapter 35: the reference's rows packed, their costs, the zlib form. -/
import Derived.Test.YtajklleiifhipaaGreatDoorY0
import Derived.Test.YtajklleiifhipaaGreatDoorY5
import Derived.Test.YtajklleiifhipaaGreatDoorY13
import Derived.Test.YtajklleiifhipaaGreatDoorY14
import Derived.Test.YtajklleiifhipaaGreatDoorY18
import Derived.Test.YtajklleiifhipaaGreatDoorY21
import Derived.Test.YtajklleiifhipaaGreatDoorDg29Y
import Derived.Test.YtajklleiifhipaaGreatDoorDp27Y
set_option linter.unusedSimpArgs false
set_option linter.unusedVariables false
namespace Go.Proofs.YtajklleiifhipaaGreatDoor
open Go.RowKit Sym
open Pg
namespace Pg
end Pg
theorem adl_lt (l : List UInt8) : Adler.sum l < 4294967296 := by have := Adler.sums_lt l; unfold Adler.sum; omega
theorem q35Adler_ret (p : Value) (l : List UInt8) (w : World) (hp : RdL u8 w p l) :
  Ret Tryz.prog 51 #[p] w fun v w' => v = w32 (Adler.sum l) ∧ Ext w w' := (rAdler32_ret p l w hp).mono fun v w' ⟨h, e⟩ => ⟨h, e ▸ Ext.refl w⟩
theorem four34_ret (n : Nat) (w : World) (hn : n < 4294967296) :
  Ret Tryz.prog 50 #[.int .u32 (n : Int)] w fun v w' => M w Nn w' [Rg.sl u8 5 v [UInt8.ofNat (n / 16777216), UInt8.ofNat (n / 65536), UInt8.ofNat (n / 256), UInt8.ofNat n]] := by
 have hM := M.start w
 refine enter Tryz.func50 rfl (by kernel_rfl) Tryz.ntmps50 rfl $ Kb $ Kd rfl $ Km rfl $ E.quo (c := ((n / 16777216 : Nat) : Int)) rfl rfl (by omega) (by rw [Int.tdiv_eq_ediv_of_nonneg (by omega)]; exact (IntWalk.u32_in _ (by omega)).trans (by omega)) rfl $ E.conv rfl U58 U5 (c := ((UInt8.ofNat (n / 16777216)).toNat : Int)) (wrap8 _) rfl $ Km rfl $ E.quo (c := ((n / 65536 : Nat) : Int)) rfl rfl (by omega) (by rw [Int.tdiv_eq_ediv_of_nonneg (by omega)]; exact (IntWalk.u32_in _ (by omega)).trans (by omega)) rfl $ E.rem rfl rfl (by omega) (remN (a := n / 65536) (b := 256)) rfl $ E.conv rfl U58 U5 (c := ((UInt8.ofNat (n / 65536)).toNat : Int)) ((wrap8 (n / 65536 % 256)).trans (by simp)) rfl $ Km rfl $ E.quo (c := ((n / 256 : Nat) : Int)) rfl rfl (by omega) (by rw [Int.tdiv_eq_ediv_of_nonneg (by omega)]; exact (IntWalk.u32_in _ (by omega)).trans (by omega)) rfl $ E.rem rfl rfl (by omega) (remN (a := n / 256) (b := 256)) rfl $ E.conv rfl U58 U5 (c := ((UInt8.ofNat (n / 256)).toNat : Int)) ((wrap8 (n / 256 % 256)).trans (by simp)) rfl $ Km rfl $ E.rem rfl rfl (by omega) (remN (a := n) (b := 256)) rfl $ E.conv rfl U58 U5 (c := ((UInt8.ofNat (n)).toNat : Int)) ((wrap8 (n % 256)).trans (by simp)) rfl ?_
 refine E.mkM (enc := u8) (e := 5) [UInt8.ofNat (n / 16777216), UInt8.ofNat (n / 65536), UInt8.ofNat (n / 256), UInt8.ofNat n] hM rfl (fun _ => by kernel_rfl) rfl rfl rfl ?_
 intro v17 w0 hM
 refine Kc rfl $ C.ret $ ret1 rfl rfl ?_
 exact hM
end Go.Proofs.YtajklleiifhipaaGreatDoor
