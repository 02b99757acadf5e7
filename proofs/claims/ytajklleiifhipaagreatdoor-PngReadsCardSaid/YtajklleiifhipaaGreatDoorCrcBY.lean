/- What the reference's CRC-32, the products of polynomials and the combination of two checksums return. -/
import Derived.Test.YtajklleiifhipaaGreatDoorY0
import Derived.Test.YtajklleiifhipaaGreatDoorY5
import Derived.Test.YtajklleiifhipaaGreatDoorY12
set_option linter.unusedSimpArgs false
set_option linter.unusedVariables false
namespace Go.Proofs.YtajklleiifhipaaGreatDoor
open Go.RowKit Sym
theorem xor_ext (x : BitVec 32) (c : UInt8) : bits .xor .u32 (x.toNat : Int) (c.toNat : Int) = ((x ^^^ Crc.ext c).toNat : Int) := by
 rw [← bits_xor32, ext_toNat]
theorem xor_ones (x : BitVec 32) : bits .xor .u32 (x.toNat : Int) 4294967295 = ((~~~ x).toNat : Int) := by
 have h := bits_xor32 x 0xffffffff#32
 have e : x ^^^ 0xffffffff#32 = ~~~ x := by
  apply BitVec.eq_of_getLsbD_eq; intro i hi
  have : ∀ i, i < 32 → (0xffffffff#32).getLsbD i = true := by decide
  rw [BitVec.getLsbD_xor, this i hi, BitVec.getLsbD_not]; simp [hi]
 rw [e] at h; exact h
theorem rCRC32_ret (p : Value) (l : List UInt8) (w : World) (hp : RdL u8 w p l) :
  Ret Tryz.prog 53 #[p] w fun v w' => v = u32 (Crc.crc l) ∧ w = w' := by
 have hle : l.length ≤ 9223372036854775807 := Rd.le hp
 refine enter Tryz.func53 rfl (by kernel_rfl) Tryz.ntmps53 rfl $ Kb $ Kd rfl $ Kc rfl $ C.seq $ Kb $ Kc rfl $ C.block $ C.loop (G := Nat) (fun k => [(0, p), (3, u32 (Crc.reg 0xffffffff#32 (l.take k))), (4, i64 k)]) (fun k w' => k ≤ l.length ∧ w = w') (fun k => l.length - k) 0 ?_ ?_ ?_
 · exact Sub.cons rfl $ Sub.cons rfl $ S1 rfl
 · exact ⟨by omega, rfl⟩
 rintro k _ ⟨hk, rfl⟩
 refine C.seq $ Kb $ Kf rfl $ E.len rfl hp U22 rfl $ Kp rfl $ Ka $ C.cond' rfl (fun hc => ?_) (fun hc => ?_)
 ·
  have hk' : k < l.length := by omega
  have hb := u8_lt l[k]
  refine Kk $ C.seq $ C.block $ Kb $ Kf rfl $ Km rfl $ E.get (k := k) rfl rfl hp rfl hk' U22 (by kernel_rfl) U5 rfl rfl rfl $ E.conv rfl U5 U58 (IntWalk.u32_in _ (by omega)) rfl $ E.binw rfl rfl rfl (congrArg _ (xor_ext _ _)) rfl $ Kd rfl $ Kc rfl $ C.block $ C.loop (G := Nat) (fun m => [(0, p), (3, u32 (Crc.steps m (Crc.reg 0xffffffff#32 (l.take k) ^^^ Crc.ext l[k]))), (4, i64 k), (5, i64 m)]) (fun m w' => m ≤ 8 ∧ w = w') (fun m => 8 - m) 0 ?_ ?_ ?_
  · exact Sub.cons rfl $ Sub.cons rfl $ Sub.cons rfl $ S1 rfl
  · exact ⟨by omega, rfl⟩
  rintro m _ ⟨hm, rfl⟩
  refine C.seq $ Kb $ Km rfl $ Kp rfl $ Ka $ C.cond' rfl (fun hc => ?_) (fun hc => ?_)
  ·
   refine Kk $ C.seq $ C.block $ C.region $ Km rfl $ E.call rfl rfl (rstep_ret _ _) ?_
   rintro _ _ ⟨rfl, rfl⟩
   refine Kn rfl $ E.nil $ X.outN $ X.next $ C.region $ Km rfl $ E.add rfl rfl (by omega) rfl $ Kn rfl $ E.nil $ X.again (m + 1) (Sub.cons rfl $ Sub.cons (by rw [Crc.steps_succ]; rfl) $ Sub.cons rfl $ S1 rfl) ⟨by omega, rfl⟩ (by omega)
  obtain rfl : m = 8 := by omega
  refine C.exit $ X.exitT $ X.exitT $ X.outE $ X.outN $ X.next $ C.region $ Km rfl $ E.add rfl rfl (by omega) rfl $ Kn rfl $ E.nil $ X.again (k + 1) (Sub.cons rfl $ Sub.cons (by rw [reg_take _ l k hk']; rfl) $ S1 rfl) ⟨by omega, rfl⟩ (by omega)
 obtain rfl : k = l.length := by omega
 refine Kx $ Kb $ Km rfl $ E.binw rfl rfl rfl (congrArg _ (xor_ones _)) rfl $ Kc rfl $ C.ret $ ret1 rfl rfl ?_
 exact ⟨by rw [List.take_length]; rfl, rfl⟩
end Go.Proofs.YtajklleiifhipaaGreatDoor
