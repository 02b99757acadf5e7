/- Texts of the claim, laid together: Crc, Jn1, Pg2, Pg3. -/
import Derived.Test.YtajklleiifhipaaGreatDoorProg
import Derived.Test.YtajklleiifhipaaGreatDoorY0
import Derived.Test.YtajklleiifhipaaGreatDoorY4
import Derived.Test.YtajklleiifhipaaGreatDoorY5
import Derived.Test.YtajklleiifhipaaGreatDoorY6
import Derived.Test.YtajklleiifhipaaGreatDoorY11
set_option linter.unusedSimpArgs false
set_option linter.unusedVariables false
namespace Go.Proofs.YtajklleiifhipaaGreatDoor
open Go.RowKit Sym
abbrev u32 (x : BitVec 32) : Value := .int .u32 (x.toNat : Int)
theorem stepA (x : BitVec 32) (h : x.getLsbD 0 = true) : bits .xor .u32 ((x.toNat : Int) / 2) 3988292384 = ((Crc.step x).toNat : Int) := by
 have e : (x.toNat : Int) / (2 : Int) = ((x >>> 1).toNat : Int) := by rw [shr32]; rfl
 rw [e]
 have := bits_xor32 (x >>> 1) 0xedb88320#32
 unfold Crc.step; rw [if_pos h]; exact this
theorem stepB (x : BitVec 32) (h : ¬ x.getLsbD 0 = true) : (x.toNat : Int) / 2 = ((Crc.step x).toNat : Int) := by
 have e : (x.toNat : Int) / (2 : Int) = ((x >>> 1).toNat : Int) := by rw [shr32]; rfl
 rw [e]; unfold Crc.step; rw [if_neg h]
theorem lsb_iff (x : BitVec 32) : bits .and .u32 (x.toNat : Int) 1 = 1 ↔ x.getLsbD 0 = true := by
 rw [← lsb32]; simp
theorem step_ret (x : BitVec 32) (w : World) :
  Ret Tryz.prog 127 #[u32 x] w fun v w' => v = u32 (Crc.step x) ∧ w = w' := by
 refine enter Tryz.func127 rfl (by kernel_rfl) Tryz.ntmps127 rfl $ Kb $ Kc rfl $ C.seq $ Kb $ Km rfl $ Kp rfl $ Kp rfl $ Ka $ C.cond' rfl (fun hc => ?_) (fun hc => ?_)
 ·
  refine Kb $ Km rfl $ E.shr rfl rfl (by decide) (c := _ / 2) rfl rfl $ Kp rfl $ Kc rfl $ C.ret $ X.retT $ ret1 rfl rfl ?_
  exact ⟨congrArg _ (stepA x ((lsb_iff x).1 hc)), rfl⟩
 refine Kk $ Kb $ Km rfl $ E.shr rfl rfl (by decide) (c := _ / 2) rfl rfl $ Kc rfl $ C.ret $ ret1 rfl rfl ?_
 exact ⟨congrArg _ (stepB x (fun h => hc ((lsb_iff x).2 h))), rfl⟩
def tabL (k : Nat) : List Value := (List.range 256).map fun i => if i < k then u32 (Crc.steps 8 (BitVec.ofNat 32 i)) else .int .u32 0
theorem tabL_len (k : Nat) : (tabL k).length = 256 := by simp [tabL]
theorem tabL_get (k i : Nat) (h : i < 256) : (tabL k)[i]? = some (if i < k then u32 (Crc.steps 8 (BitVec.ofNat 32 i)) else .int .u32 0) := by simp [tabL, h]
theorem tabL_succ (k : Nat) (h : k < 256) : (tabL k).toArray.setIfInBounds k (u32 (Crc.steps 8 (BitVec.ofNat 32 k))) = (tabL (k + 1)).toArray := by
  rw [List.setIfInBounds_toArray]
  congr 1
  apply List.ext_getElem?
  intro i
  by_cases hi : i < 256
  · rw [List.getElem?_set, tabL_get _ _ hi, tabL_get _ _ hi, tabL_len]
    by_cases e : k = i
    · subst e; simp [h]
    have : (i < k + 1) = (i < k) := by simp; omega
    simp [e, this]
  rw [List.getElem?_eq_none (by simp [tabL_len]; omega), List.getElem?_eq_none (by rw [tabL_len]; omega)]
theorem tabL_one (k : Nat) : ∀ u ∈ tabL k, u.oneCell' = true := by
 intro u hu
 simp only [tabL, List.mem_map] at hu
 obtain ⟨i, _, rfl⟩ := hu
 split <;> rfl
theorem table32_ret (w : World) :
  Ret Tryz.prog 90 #[] w fun v w' => v = .agg (tabL 256).toArray ∧ Ext w w' := by
 refine enter Tryz.func90 rfl (by kernel_rfl) Tryz.ntmps90 rfl $ Kb $ E.alloc (z := .agg (tabL 0).toArray) (by kernel_rfl) rfl $ Ke $ E.alloc (z := .agg (tabL 0).toArray) (by kernel_rfl) rfl $ Ka $ C.seq $ Kb $ Km rfl $ Ka $ C.block $ ?_
 have e1 : (w.alloc (.cells (Value.agg (tabL 0).toArray).cells 111)).heap.size = w.heap.size + 1 := World.size_alloc ..
 rw [e1]
 refine C.loop (G := Nat) (fun k => [(0, .pointer (some ⟨w.heap.size, 0, none⟩)), (1, .pointer (some ⟨w.heap.size + 1, 0, none⟩)), (4, i64 k)])
  (fun k w' => k ≤ 256 ∧ Blk w' w.heap.size 111 (tabL 0).toArray ∧ Blk w' (w.heap.size + 1) 111 (tabL k).toArray ∧ Ext w w') (fun k => 256 - k) 0 ?_ ?_ ?_
 · exact Sub.cons rfl $ Sub.cons rfl $ S1 rfl
 · exact ⟨by omega, (Blk.new w _ _).alloc _, by have := Blk.new (w.alloc (.cells (Value.agg (tabL 0).toArray).cells 111)) 111 (tabL 0).toArray; rw [e1] at this; exact this, (Ext.new _ _).alloc _⟩
 rintro k wk ⟨hk, h0, h1, hx⟩
 refine Kb $ Kp rfl $ Ka $ C.seq $ C.cond' rfl (fun hc => ?_) (fun hc => ?_)
 ·
  refine Kk $ C.seq $ C.block $ Kb $ Km rfl $ Kd rfl $ Km rfl $ E.conv rfl U3 U58 (IntWalk.u32_in _ (by omega)) rfl $ Kc rfl $ C.seq $ Kb $ Km rfl $ Ka $ C.block $ C.loop (G := Nat) (fun m => [(0, .pointer (some ⟨w.heap.size, 0, none⟩)), (1, .pointer (some ⟨w.heap.size + 1, 0, none⟩)), (2, i64 k), (3, u32 (Crc.steps m (BitVec.ofNat 32 k))), (4, i64 k), (9, i64 m)]) (fun m w' => m ≤ 8 ∧ wk = w') (fun m => 8 - m) 0 ?_ ?_ ?_
  · exact Sub.cons rfl $ Sub.cons rfl $ Sub.cons rfl $ Sub.cons (congrArg (fun z => some (Value.int .u32 z)) (by simp [Crc.steps]; omega)) $ Sub.cons rfl $ S1 rfl
  · exact ⟨by omega, rfl⟩
  rintro m _ ⟨hm, rfl⟩
  refine Kb $ Kp rfl $ Ka $ C.seq $ C.cond' rfl (fun hc => ?_) (fun hc => ?_)
  ·
   refine Kk $ C.seq $ C.block $ C.region $ Km rfl $ E.call rfl rfl (step_ret _ _) ?_
   rintro _ _ ⟨rfl, rfl⟩
   refine Kn rfl $ E.nil $ X.outN $ X.next $ C.region $ E.add rfl rfl (by omega) rfl $ Km rfl $ E.nil $ X.again (m + 1) (Sub.cons rfl $ Sub.cons rfl $ Sub.cons rfl $ Sub.cons (by rw [Crc.steps_succ]; rfl) $ Sub.cons rfl $ S1 rfl) ⟨by omega, rfl⟩ (by omega)
  obtain rfl : m = 8 := by omega
  have hk' : k < 256 := by omega
  refine Kx $ C.region $ Kf rfl $ E.idxA (sz := 1) rfl rfl Tryz.underlying111 (by kernel_rfl) (by omega) (by omega) rfl ?_
  have ea : 0 + (k : Int).toNat * 1 = k := by omega
  rw [ea]
  refine E.store rfl rfl (by kernel_rfl) rfl (by rw [h1.cell, List.getElem?_toArray]; exact tabL_get k k hk') (h1.frozen _) ?_
  refine E.nil $ X.outN $ X.next $ C.region $ E.add rfl rfl (by omega) rfl $ Km rfl $ E.nil $ X.again (k + 1) (Sub.cons rfl $ Sub.cons rfl $ S1 rfl) ⟨by omega, h0.setOther (by simp) _, by rw [← tabL_succ k hk']; exact h1.set k _, hx.setCell (by simp) _⟩ (by omega)
 obtain rfl : k = 256 := by omega
 refine Kx $ Kb $ E.loadA (cs := tabL 256) rfl Tryz.underlying111 rfl (by rw [tabL_len]; kernel_rfl) (h1.at 0 _ fun j u hu => by rw [Nat.zero_add, List.getElem?_toArray]; exact hu) rfl ?_
 refine E.storeA (cs := tabL 256) rfl rfl (by rw [tabL_len]; kernel_rfl) h0 (by simp [tabL_len]) (tabL_one 256) ?_
 rw [splice_all _ _ (by simp [tabL_len])]
 refine Ka $ C.ret $ retA rfl rfl Tryz.underlying111 rfl (h0.setRow _) (by rw [tabL_len]; kernel_rfl) ?_
 exact ⟨rfl, hx.setRow (Nat.le_refl _) _⟩
def tix (x : BitVec 32) (c : UInt8) : Nat := x.toNat % 256 ^^^ c.toNat
theorem u8_lt (c : UInt8) : c.toNat < 256 := c.toNat_lt
theorem tix_lt (x : BitVec 32) (c : UInt8) : tix x c < 256 := Nat.xor_lt_two_pow (n := 8) (Nat.mod_lt _ (by decide)) (u8_lt c)
theorem tix_eq (x : BitVec 32) (c : UInt8) : bits .xor .u8 ((x.toNat : Int) % 256) (c.toNat : Int) = ((tix x c : Nat) : Int) := by
 have h : (x.toNat : Int) % 256 = ((x.toNat % 256 : Nat) : Int) := by simp
 rw [h, u8_xor_nat _ _ (Nat.mod_lt _ (by decide)) (u8_lt c)]; rfl
theorem ext_toNat (c : UInt8) : (Crc.ext c).toNat = c.toNat := by
 simp [Crc.ext]
theorem shr8_ext (x : BitVec 32) (c : UInt8) : (x ^^^ Crc.ext c) >>> 8 = x >>> 8 := by
 rw [BitVec.ushiftRight_xor_distrib]
 have : Crc.ext c >>> 8 = 0#32 := by
  apply BitVec.eq_of_toNat_eq
  have := u8_lt c
  rw [BitVec.toNat_ushiftRight, ext_toNat, Nat.shiftRight_eq_div_pow]; simp; omega
 rw [this]; simp
theorem low8_ext (x : BitVec 32) (c : UInt8) : (x ^^^ Crc.ext c) &&& 0xff#32 = BitVec.ofNat 32 (tix x c) := by
 apply BitVec.eq_of_toNat_eq
 have h1 := tix_lt x c
 have h2 := u8_lt c
 have hr : (BitVec.ofNat 32 (tix x c)).toNat = tix x c := by rw [BitVec.toNat_ofNat]; exact Nat.mod_eq_of_lt (Nat.lt_trans h1 (by decide))
 have : (0xff#32).toNat = 2 ^ 8 - 1 := by decide
 rw [BitVec.toNat_and, BitVec.toNat_xor, ext_toNat, hr, this, Nat.and_two_pow_sub_one_eq_mod, tix]
 have hm : ∀ a b : Nat, b < 256 → (a ^^^ b) % 2 ^ 8 = a % 256 ^^^ b := by
  intro a b hb
  rw [Nat.xor_mod_two_pow, Nat.mod_eq_of_lt (a := b) (by simpa using hb)]
 exact hm _ _ h2
theorem upd_eq (x : BitVec 32) (c : UInt8) : bits .xor .u32 ((x.toNat : Int) / 256) ((Crc.steps 8 (BitVec.ofNat 32 (tix x c))).toNat : Int) = ((Crc.steps 8 (x ^^^ Crc.ext c)).toNat : Int) := by
 have e : (x.toNat : Int) / (256 : Int) = ((x >>> 8).toNat : Int) := by rw [shr32]; rfl
 rw [e, bits_xor32, Crc.steps8_split (x ^^^ Crc.ext c), shr8_ext, low8_ext]
theorem reg_take (x : BitVec 32) (l : List UInt8) (k : Nat) (h : k < l.length) : Crc.reg x (l.take (k + 1)) = Crc.steps 8 (Crc.reg x (l.take k) ^^^ Crc.ext l[k]) := by
 rw [List.take_succ_eq_append_getElem h, Crc.reg_snoc]
theorem update_ret (x : BitVec 32) (p : Value) (l : List UInt8) (w : World) (hp : RdL u8 w p l) :
  Ret Tryz.prog 59 #[u32 x, p] w fun v w' => v = u32 (Crc.reg x l) ∧ Ext w w' := by
 have hle : l.length ≤ 9223372036854775807 := Rd.le hp
 refine enter Tryz.func59 rfl (by kernel_rfl) Tryz.ntmps59 rfl $ Kb $ Kd rfl $ E.call rfl rfl (table32_ret _) ?_
 rintro _ w1 ⟨rfl, hx1⟩
 refine E.alloc (z := .agg (tabL 0).toArray) (by kernel_rfl) rfl $ E.storeA (cs := tabL 256) rfl rfl (by rw [tabL_len]; kernel_rfl) (Blk.new w1 111 (tabL 0).toArray) (by simp [tabL_len]) (tabL_one 256) ?_
 rw [splice_all _ _ (by simp [tabL_len]), show (Value.agg (tabL 0).toArray).cells = (tabL 0).toArray from rfl, setRow_alloc]
 have hb2 := Blk.new w1 111 (tabL 256).toArray
 have hx2 := hx1.alloc (.cells (tabL 256).toArray 111)
 revert hb2 hx2
 generalize w1.alloc (.cells (tabL 256).toArray 111) = w2
 generalize w1.heap.size = B
 intro hb2 hx2
 have hp2 : RdL u8 w2 p l := hp.ext hx2
 refine Ka $ C.seq $ Kb $ Km rfl $ E.len rfl hp2 U22 rfl $ Km rfl $ Ka $ C.block $ C.loop (G := Nat) (fun k => [(0, u32 (Crc.reg x (l.take k))), (5, .pointer (some ⟨B, 0, none⟩)), (9, p), (10, i64 l.length), (11, i64 k)]) (fun k w' => k ≤ l.length ∧ w2 = w') (fun k => l.length - k) 0 ?_ ?_ ?_
 · exact Sub.cons rfl $ Sub.cons rfl $ Sub.cons rfl $ Sub.cons rfl $ S1 rfl
 · exact ⟨by omega, rfl⟩
 rintro k _ ⟨hk, rfl⟩
 refine Kb $ Kp rfl $ Ka $ C.seq $ C.cond' rfl (fun hc => ?_) (fun hc => ?_)
 ·
  have hk' : k < l.length := by omega
  have ht := tix_lt (Crc.reg x (l.take k)) l[k]
  refine Kk $ C.seq $ C.block $ Kb $ E.idx (sz := 1) rfl rfl hp2 U22 (by kernel_rfl) (by omega) (by omega) (by decide) rfl ?_
  rw [show (k : Int).toNat * 1 = k from by omega]
  refine E.load rfl U5 rfl (hp2.cell hk') rfl $ Kc rfl $ C.region $ Km rfl $ E.shr rfl rfl (by decide) (c := _ / 256) rfl rfl $ Km rfl $ E.conv rfl U58 U5 (IntKind.wrap_u8' _) rfl $ Km rfl $ E.binw rfl rfl rfl (congrArg _ (tix_eq _ _)) rfl $ E.idxA (sz := 1) rfl rfl Tryz.underlying111 (by kernel_rfl) (by omega) (by omega) rfl ?_
  rw [show 0 + ((tix (Crc.reg x (l.take k)) l[k] : Nat) : Int).toNat * 1 = tix (Crc.reg x (l.take k)) l[k] from by omega]
  refine E.load rfl U58 rfl (by rw [hb2.cell, List.getElem?_toArray, tabL_get _ _ ht, if_pos ht]) rfl ?_
  refine E.binw rfl rfl rfl (congrArg _ (upd_eq _ _)) rfl $ Kn rfl $ E.nil $ X.outN $ X.next $ C.region $ E.add rfl rfl (by omega) rfl $ Km rfl $ E.nil $ X.again (k + 1) (Sub.cons (by rw [reg_take x l k hk']; rfl) $ Sub.cons rfl $ Sub.cons rfl $ Sub.cons rfl $ S1 rfl) ⟨by omega, rfl⟩ (by omega)
 obtain rfl : k = l.length := by omega
 refine Kx $ Kb $ Km rfl $ Kc rfl $ C.ret $ ret1 rfl rfl ?_
 exact ⟨by rw [List.take_length], hx2⟩
theorem flip32 (x : BitVec 32) : bits .xor .u32 (if IntKind.u32.signed then -1 else IntKind.u32.max) (x.toNat : Int) = ((~~~ x).toNat : Int) := by
 have h : (if IntKind.u32.signed then -1 else IntKind.u32.max : Int) = ((0xffffffff#32).toNat : Int) := by decide
 rw [h, bits_xor32]
 have : 0xffffffff#32 ^^^ x = ~~~ x := by
  apply BitVec.eq_of_getLsbD_eq; intro i hi
  have : ∀ i, i < 32 → (0xffffffff#32).getLsbD i = true := by decide
  rw [BitVec.getLsbD_xor, this i hi, BitVec.getLsbD_not]; simp [hi]
 rw [this]
theorem CRC32_ret (p : Value) (l : List UInt8) (w : World) (hp : RdL u8 w p l) :
  Ret Tryz.prog 40 #[p] w fun v w' => v = u32 (Crc.crc l) ∧ Ext w w' := by
 refine enter Tryz.func40 rfl (by kernel_rfl) Tryz.ntmps40 rfl $ Kb $ Kd rfl $ Km rfl $ E.call rfl rfl (update_ret 0xffffffff#32 p l w hp) ?_
 rintro _ w1 ⟨rfl, hx1⟩
 refine E.flip rfl (flip32 _) rfl $ Kc rfl $ C.ret $ ret1 rfl rfl ?_
 exact ⟨rfl, hx1⟩
theorem odd_iff (x : BitVec 32) : (x.toNat : Int) % 2 = 1 ↔ x.getLsbD 0 = true := by
 have : x.getLsbD 0 = decide (x.toNat % 2 = 1) := by simp [BitVec.getLsbD, Nat.testBit_zero]
 rw [this]; simp; omega
theorem quo2 (x : BitVec 32) : IntKind.u32.wrap ((x.toNat : Int).tdiv 2) = (x.toNat : Int) / 2 := IntWalk.u32_quo _ _ (by have := lt32 x; omega)
theorem rstep_ret (x : BitVec 32) (w : World) :
  Ret Tryz.prog 78 #[u32 x] w fun v w' => v = u32 (Crc.step x) ∧ w = w' := by
 refine enter Tryz.func78 rfl (by kernel_rfl) Tryz.ntmps78 rfl $ Kb $ Kc rfl $ C.seq $ Kb $ Km rfl $ E.rem rfl rfl (by omega) (IntWalk.rem_in _ _ (by omega)) rfl $ Kp rfl $ Ka $ C.cond' rfl (fun hc => ?_) (fun hc => ?_)
 ·
  refine Kb $ Km rfl $ E.quo rfl rfl (by omega) (quo2 x) rfl $ Kp rfl $ Kc rfl $ C.ret $ X.retT $ ret1 rfl rfl ?_
  exact ⟨congrArg _ (stepA x ((odd_iff x).1 hc)), rfl⟩
 refine Kk $ Kb $ Km rfl $ E.quo rfl rfl (by omega) (quo2 x) rfl $ Kc rfl $ C.ret $ ret1 rfl rfl ?_
 exact ⟨congrArg _ (stepB x (fun h => hc ((odd_iff x).2 h))), rfl⟩
end Go.Proofs.YtajklleiifhipaaGreatDoor
namespace Go.Proofs.YtajklleiifhipaaGreatDoor
open Go.RowKit Sym
abbrev nilS : Value := .slice none 0 0
theorem wrap8 (m : Nat) : IntKind.u8.wrap (m : Int) = ((UInt8.ofNat m).toNat : Int) := by
 rw [show (UInt8.ofNat m).toNat = m % 256 from by simp]
 simp [IntKind.wrap, IntKind.bits, IntKind.signed]
theorem getD_u8 {l : List UInt8} {k : Nat} (h : k < l.length) : l[k] = l.getD k 0 := by rw [List.getD_eq_getElem?_getD, List.getElem?_eq_getElem h]; rfl
theorem crc_u32 (l : List UInt8) : u32 (Crc.crc l) = .int .u32 (Jn.crcN l : Int) := rfl
end Go.Proofs.YtajklleiifhipaaGreatDoor
namespace Go.Proofs.YtajklleiifhipaaGreatDoor
open Go.RowKit Sym
theorem elem_Tapi_Chunk : Elem Tryz.prog 39 2 40 := elem_of (z := .agg #[.string .empty, .slice none 0 0]) (by kernel_rfl) rfl (by decide)
open Pg
theorem orN {a b : Nat} (k : Nat) (hb : b < 2 ^ k) (h : a * 2 ^ k + b < 4294967296) : bits .or .i64 ((a * 2 ^ k : Nat) : Int) (b : Int) = ((a * 2 ^ k + b : Nat) : Int) := by
 rw [i64_or_nat _ _ (by omega) (by omega)]
 congr 1
 rw [← Nat.shiftLeft_eq, ← Nat.shiftLeft_add_eq_or_of_lt hb]
theorem orN4 {a b c d : Nat} (ha : a < 256) (hb : b < 256) (hc : c < 256) (hd : d < 256) : bits .or .i64 (bits .or .i64 (bits .or .i64 ((a : Int) * 16777216) ((b : Int) * 65536)) ((c : Int) * 256)) (d : Int) = ((a * 16777216 + b * 65536 + c * 256 + d : Nat) : Int) := by
 have e1 := orN (a := a) (b := b * 65536) 24 (by omega) (by omega)
 have e2 := orN (a := a * 256 + b) (b := c * 256) 16 (by omega) (by omega)
 have e3 := orN (a := a * 65536 + b * 256 + c) (b := d) 8 (by omega) (by omega)
 rw [show ((a * 2 ^ 24 : Nat) : Int) = (a : Int) * 16777216 from by omega, show ((b * 65536 : Nat) : Int) = (b : Int) * 65536 from by omega] at e1
 rw [e1, show ((a * 2 ^ 24 + b * 65536 : Nat) : Int) = (((a * 256 + b) * 2 ^ 16 : Nat) : Int) from by omega, show (c : Int) * 256 = ((c * 256 : Nat) : Int) from by omega, e2,
  show (((a * 256 + b) * 2 ^ 16 + c * 256 : Nat) : Int) = (((a * 65536 + b * 256 + c) * 2 ^ 8 : Nat) : Int) from by omega, e3]
 omega
theorem str_size (t : List UInt8) : (ByteArray.mk t.toArray).size = t.length := rfl
theorem str_get {t : List UInt8} {k : Nat} (h : k < t.length) : (ByteArray.mk t.toArray)[k]? = some t[k] := by
 rw [getElem?_pos (ByteArray.mk t.toArray) k h]; rfl
def lw (n : Nat) : Nat := n &&& 223
theorem lw_bits : ∀ n, n < 256 → bits .andNot .u8 ((n : Nat) : Int) 32 = ((lw n : Nat) : Int) := by decide +kernel
theorem lw_isL : ∀ n, n < 256 → (((65 ≤ n ∧ n ≤ 90) ∨ (97 ≤ n ∧ n ≤ 122)) ↔ ¬ (lw n < 65 ∨ 90 < lw n)) := by decide +kernel
theorem isL_t {c : UInt8} (h : ¬ (lw c.toNat < 65 ∨ 90 < lw c.toNat)) : isL c = true := decide_eq_true ((lw_isL _ (UInt8.toNat_lt c)).2 h)
theorem isL_f {c : UInt8} (h : lw c.toNat < 65 ∨ 90 < lw c.toNat) : isL c = false := decide_eq_false fun k => (lw_isL _ (UInt8.toNat_lt c)).1 k h
theorem all_takeN {p : UInt8 → Prop} {t : List UInt8} {k : Nat} (hk : k < t.length) (h : ∀ c ∈ t.take k, p c) (hc : p t[k]) : ∀ c ∈ t.take (k + 1), p c := fun c hc' => by
 rw [← List.take_append_getElem hk, List.mem_append, List.mem_singleton] at hc'
 rcases hc' with h' | rfl
 · exact h c h'
 exact hc
theorem cut_all {α : Type} (a : Nat) (l : List α) : cutL a l.length l = l.drop a := by rw [cutL]; exact List.take_of_length_le (by simp)
def HdV (r : Except Int Ck) (c : Ck) (e : Int) : Prop := (e = 0 ∧ r = .ok c) ∨ (e ≠ 0 ∧ r = .error e ∧ c = ([], []))
theorem gnumber_ret (p : Value) (l : List UInt8) (w : World) (hl : RdL u8 w p l) (h4 : 4 ≤ l.length) :
  Ret Tryz.prog 28 #[p] w fun v w' => v = i64 (Jn.dec4 l : Int) ∧ Ext w w' := by
 have hu0 := (l.getD 0 0).toNat_lt
 have hu1 := (l.getD 1 0).toNat_lt
 have hu2 := (l.getD 2 0).toNat_lt
 have hu3 := (l.getD 3 0).toNat_lt
 have hg0 := getD_u8 (l := l) (k := 0) (by omega)
 have hg1 := getD_u8 (l := l) (k := 1) (by omega)
 have hg2 := getD_u8 (l := l) (k := 2) (by omega)
 have hg3 := getD_u8 (l := l) (k := 3) (by omega)
 have hM := M.start w
 refine enter Tryz.func28 rfl (by kernel_rfl) Tryz.ntmps28 rfl $ Kb $ Kc rfl $ C.seq $ C.drawn (by kernel_rfl) (by kernel_rfl) $ Q.mv rfl rfl $ Q.idx1 (k := 0) rfl rfl (hM.arg0 hl) rfl (by omega) U22 (by kernel_rfl) rfl $ Q.load rfl U5 rfl ((hM.arg0 hl).cellA rfl (by omega)) rfl ?_
 rw [hg0]
 refine Q.conv rfl U5 U3 (IntWalk.i64_in _ (by omega)) rfl $ Q.shl (c := _ * 16777216) rfl rfl (by omega) (IntWalk.i64_in ((((l.getD 0 0).toNat : Int)) * 16777216) (by omega)) rfl $ Q.mv rfl rfl $ Q.idx1 (k := 1) rfl rfl (hM.arg0 hl) rfl (by omega) U22 (by kernel_rfl) rfl $ Q.load rfl U5 rfl ((hM.arg0 hl).cellA rfl (by omega)) rfl ?_
 rw [hg1]
 refine Q.conv rfl U5 U3 (IntWalk.i64_in _ (by omega)) rfl $ Q.shl (c := _ * 65536) rfl rfl (by omega) (IntWalk.i64_in ((((l.getD 1 0).toNat : Int)) * 65536) (by omega)) rfl $ Q.bin rfl rfl rfl rfl $ Q.mv rfl rfl $ Q.idx1 (k := 2) rfl rfl (hM.arg0 hl) rfl (by omega) U22 (by kernel_rfl) rfl $ Q.load rfl U5 rfl ((hM.arg0 hl).cellA rfl (by omega)) rfl ?_
 rw [hg2]
 refine Q.conv rfl U5 U3 (IntWalk.i64_in _ (by omega)) rfl $ Q.shl (c := _ * 256) rfl rfl (by omega) (IntWalk.i64_in ((((l.getD 2 0).toNat : Int)) * 256) (by omega)) rfl $ Q.bin rfl rfl rfl rfl $ Q.mv rfl rfl $ Q.idx1 (k := 3) rfl rfl (hM.arg0 hl) rfl (by omega) U22 (by kernel_rfl) rfl $ Q.load rfl U5 rfl ((hM.arg0 hl).cellA rfl (by omega)) rfl ?_
 rw [hg3]
 refine Q.conv rfl U5 U3 (IntWalk.i64_in _ (by omega)) rfl $ Q.bin rfl rfl rfl rfl $ Q.asg rfl rfl $ Q.nil $ fun w0 hx0 => ?_
 have hM := hM.ext hx0
 refine X.next $ C.ret $ ret1 rfl rfl ?_
 exact ⟨congrArg _ (by rw [Jn.dec4_eq]; exact orN4 hu0 hu1 hu2 hu3), hM.toExt⟩
theorem gappend_ret (p : Value) (l : List UInt8) (n : Nat) (w : World) (hs : Sep w [Rg.sl u8 5 p l]) (hn : n < 4294967296) (hl : l.length ≤ 1000000000) :
  Ret Tryz.prog 19 #[p, i64 (n : Int)] w fun v w' => M w (fpU [Rg.sl u8 5 p l]) w' [Rg.sl u8 5 v (l ++ Jn.enc4 n)] := by
 have hM := M.startS hs
 refine enter Tryz.func19 rfl (by kernel_rfl) Tryz.ntmps19 rfl $ Kb $ Kd rfl $ Kf rfl $ E.shr rfl rfl (by decide) (c := _ / 16777216) rfl rfl $ E.conv rfl U3 U5 (c := ((UInt8.ofNat (n / 16777216)).toNat : Int)) (wrap8 (n / 16777216)) rfl $ Km rfl $ E.shr rfl rfl (by decide) (c := _ / 65536) rfl rfl $ E.conv rfl U3 U5 (c := ((UInt8.ofNat (n / 65536)).toNat : Int)) (wrap8 (n / 65536)) rfl $ Km rfl $ E.shr rfl rfl (by decide) (c := _ / 256) rfl rfl $ E.conv rfl U3 U5 (c := ((UInt8.ofNat (n / 256)).toNat : Int)) (wrap8 (n / 256)) rfl $ Km rfl $ E.conv rfl U3 U5 (c := ((UInt8.ofNat (n)).toNat : Int)) (wrap8 (n)) rfl $ E.mkM (enc := u8) (e := 5) (Jn.enc4 n) hM rfl (fun _ => by kernel_rfl) rfl rfl rfl ?_
 intro v17 w0 hM
 refine E.appendM 0 hM rfl rfl rfl U22 elem_Tuint8 (hM.sl 1 rfl) (fun _ => rfl) (by rw [Jn.enc4_len]; omega) (by rw [Jn.enc4_len]; omega) rfl ?_
 intro v18 w1 hM
 refine Kc rfl $ C.ret $ ret1 rfl rfl ?_
 exact hM.pick [0] (by decide)
theorem lettered_ret (t : List UInt8) (w : World) (ht : t.length ≤ 1000000000) :
  Ret Tryz.prog 39 #[str t] w fun v w' => v = .bool (decide (let4 t)) ∧ Ext w w' := by
 have hsz := str_size t
 have hM := M.start w
 refine enter Tryz.func39 rfl (by kernel_rfl) Tryz.ntmps39 rfl $ Kb $ Kc rfl $ C.seq $ Kb $ Km rfl $ E.lenS rfl U9 rfl $ Km rfl $ Ka $ C.block $ C.loop1 [(0, _), (6, _)] rfl (fun (k : Nat) => [(7, i64 k)]) (fun (k : Nat) w' => M w (Nn) w' [] ∧ k ≤ t.length ∧ ∀ c ∈ t.take k, isL c = true) (fun (k : Nat) => t.length - k) 0 ?_ ?_ ?_
 · exact S1 rfl
 · exact ⟨hM, Nat.zero_le _, fun c hc => by simp at hc⟩
 rintro k w0 ⟨hM, hk, hall⟩
 refine Kb $ Kp rfl $ Ka $ C.seq $ C.cond' rfl (fun hC0 => ?_) (fun hC0 => ?_)
 ·
  have hk' : k < t.length := by omega
  refine Kk $ C.seq $ C.block $ Kb $ Km rfl $ Kd rfl $ Kf rfl $ E.idxS k t[k] rfl rfl rfl (str_get hk') U9 rfl ?_
  rw [show u8 t[k] = .int .u8 ((t[k].toNat : Nat) : Int) from rfl]
  refine E.binw rfl rfl rfl (congrArg _ (lw_bits _ (UInt8.toNat_lt t[k]))) rfl $ Kc rfl $ C.chainE [(0, _), (6, _), (7, _)] rfl [(19, .bool (decide (lw t[k].toNat < 65 ∨ 90 < lw t[k].toNat)))] ?_ ?_
  ·
   refine C.region $ Km rfl $ Kp rfl $ Km rfl $ E.split 16 rfl (fun g16 => ?_) (fun g16 => ?_)
   ·
    try simp only [Ya, Yb, Yc, Yd, Ye, Yf] at g16
    refine Kq rfl $ Kq rfl $ Kr rfl $ E.nil $ X.join0 (Sub.cons (by exact leaf_t (by omega)) $ Sub.nil _) rfl rfl
   try simp only [Ya, Yb, Yc, Yd, Ye, Yf] at g16
   refine Ko rfl $ Km rfl $ Ko rfl $ Kp rfl $ Kr rfl $ E.nil $ X.join0 (Sub.cons (by exact leaf_d (by omega)) $ Sub.nil _) rfl rfl
  refine C.cond' rfl (fun hC1 => ?_) (fun hC1 => ?_)
  ·
   refine Kb $ Kc rfl $ C.ret $ X.retB $ X.retT $ X.retT $ X.retB $ X.retT $ ret1 rfl rfl ?_
   exact ⟨congrArg _ (decide_eq_false fun h => by have := h.2 t[k] (List.getElem_mem hk'); rw [isL_f hC1] at this; cases this).symm, hM.toExt⟩
  refine C.skip $ X.outN $ X.next $ C.region $ E.add rfl rfl (by omega) rfl $ Km rfl $ E.nil $ X.again1 (k + 1) (S1 rfl) rfl ⟨hM, by omega, all_takeN hk' hall (isL_t hC1)⟩ (by omega)
 obtain rfl : k = t.length := by omega
 rw [List.take_length] at hall
 refine Kx $ Kb $ Km rfl $ E.lenS rfl U9 rfl $ Kp rfl $ Kc rfl $ C.ret $ ret1 rfl rfl ?_
 exact ⟨congrArg _ (decide_eq_decide.2 ⟨fun h => ⟨by omega, hall⟩, fun h => by have := h.1; omega⟩), hM.toExt⟩
theorem critical_ret (t : List UInt8) (w : World) (ht : 1 ≤ t.length) :
  Ret Tryz.prog 54 #[str t] w fun v w' => v = .bool (decide (65 ≤ (t[0]'(by omega)).toNat ∧ (t[0]'(by omega)).toNat ≤ 90)) ∧ Ext w w' := by
 have hM := M.start w
 refine enter Tryz.func54 rfl (by kernel_rfl) Tryz.ntmps54 rfl $ Kb $ Kc rfl $ C.chainE [] rfl [(2, .bool (decide (65 ≤ (t[0]'(by omega)).toNat ∧ (t[0]'(by omega)).toNat ≤ 90)))] ?_ ?_
 ·
  refine C.region $ Km rfl $ E.idxS 0 (t[0]'(by omega)) rfl rfl rfl (str_get (by omega)) U9 rfl ?_
  rw [show u8 (t[0]'(by omega)) = .int .u8 (((t[0]'(by omega)).toNat : Nat) : Int) from rfl]
  refine Kp rfl $ Km rfl $ E.split 6 rfl (fun g6 => ?_) (fun g6 => ?_)
  ·
   try simp only [Ya, Yb, Yc, Yd, Ye, Yf] at g6
   refine Ko rfl $ Km rfl $ Ko rfl $ E.idxS 0 (t[0]'(by omega)) rfl rfl rfl (str_get (by omega)) U9 rfl ?_
   rw [show u8 (t[0]'(by omega)) = .int .u8 (((t[0]'(by omega)).toNat : Nat) : Int) from rfl]
   refine Ko rfl $ Kp rfl $ Kr rfl $ Kn rfl $ E.nil $ X.join0 (Sub.cons (by exact leaf_d (by omega)) $ Sub.nil _) rfl rfl
  try simp only [Ya, Yb, Yc, Yd, Ye, Yf] at g6
  refine Kq rfl $ Kq rfl $ Kq rfl $ Kr rfl $ Kn rfl $ E.nil $ X.join0 (Sub.cons (by exact leaf_f (by omega)) $ Sub.nil _) rfl rfl
 refine C.ret $ ret1 rfl rfl ?_
 exact ⟨rfl, hM.toExt⟩
set_option maxHeartbeats 1000000 in
theorem chunk_ret (p : Value) (l : List UInt8) (w : World) (hl : RdL u8 w p l) (hb : l.length ≤ 1000000000) :
  Ret Tryz.prog 38 #[p] w fun v w' => ∃ (x : Hd) (c : Ck) (e : Int), v = .tuple #[.agg #[str c.1, slv x], i64 e] ∧ M w Nn w' [Rg.sl u8 5 (slv x) c.2] ∧ HdV (hd l) c e := by
 have hM := M.start w
 refine enter Tryz.func38 rfl (by kernel_rfl) Tryz.ntmps38 rfl $ Kb $ E.allocM (z := .agg #[.string .empty, .slice none 0 0]) (cs := [.string .empty, .slice none 0 0]) hM (by kernel_rfl) rfl rfl ?_
 intro b2 w0 hM
 refine Kc rfl $ C.seq $ Kb $ Km rfl $ E.lenv rfl (Rd.shape (hM.arg0 hl)) U22 rfl $ Kp rfl $ Ka $ C.cond' rfl (fun hC0 => ?_) (fun hC0 => ?_)
 ·
  refine Kb $ E.buildC (cs := [_, _]) [.string .empty, .slice none 0 0] [] rfl rfl (by kernel_rfl) rfl ?_
  first
   | refine E.storeAM 0 hM rfl rfl rfl (by kernel_rfl) rfl ?_ ?_
   | refine E.storeAM 1 hM rfl rfl rfl (by kernel_rfl) rfl ?_ ?_
   | refine E.storeAM 2 hM rfl rfl rfl (by kernel_rfl) rfl ?_ ?_
   | refine E.storeAM 3 hM rfl rfl rfl (by kernel_rfl) rfl ?_ ?_
  · exact ones (by rfl) $ ones (by rfl) $ ones_nil
  intro w1 hM
  refine Kc rfl $ C.ret $ X.retT $ retAT rfl rfl rfl U39 rfl (by exact hM.blk 0 rfl) (by kernel_rfl) ?_
  exact ⟨(none, 0, 0), ([], []), 10, rfl, (hM.pick [] (by decide)).nil u8 5, .inr ⟨by decide, by rw [hd, if_pos (by omega)], rfl⟩⟩
 have hd4 := Jn.dec4_lt l
 have r4 := (hM.arg0 hl).partV (a := 4) (b := 8) (by omega) (by omega)
 refine Kk $ C.seq $ C.drawn (by kernel_rfl) (by kernel_rfl) $ Q.mv rfl rfl $ Q.call (v := i64 (Jn.dec4 l : Int)) rfl rfl (fun w' hw' => gnumber_ret _ _ w' ((hM.arg0 hl).ext hw') (by omega)) $ Q.mv rfl rfl $ Q.slcP 4 8 rfl (.inl rfl) (.inl rfl) (hM.arg0 hl) U22 (by kernel_rfl) (by omega) (by omega) rfl $ Q.bstr rfl r4 U22 U5 U9 rfl ?_
 rw [show cutL 4 8 l = ((l.drop 4).take 4) from rfl]
 refine Q.asg rfl rfl $ Q.asg rfl rfl $ Q.nil $ fun w2 hx2 => ?_
 have hM := hM.ext hx2
 refine X.next $ C.seq $ Kb $ Km rfl $ E.call rfl rfl (lettered_ret ((l.drop 4).take 4) _ (by rw [List.length_take]; omega)) ?_
 rintro _ w3 ⟨rfl, x3⟩
 have hM := hM.ext x3
 refine E.not rfl rfl $ Ka $ C.cond rfl (fun hC1 => ?_) (fun hC1 => ?_)
 ·
  have hk4 : ¬ let4 ((l.drop 4).take 4) := by simpa using hC1
  refine Kb $ E.buildC (cs := [_, _]) [.string .empty, .slice none 0 0] [] rfl rfl (by kernel_rfl) rfl ?_
  first
   | refine E.storeAM 0 hM rfl rfl rfl (by kernel_rfl) rfl ?_ ?_
   | refine E.storeAM 1 hM rfl rfl rfl (by kernel_rfl) rfl ?_ ?_
   | refine E.storeAM 2 hM rfl rfl rfl (by kernel_rfl) rfl ?_ ?_
   | refine E.storeAM 3 hM rfl rfl rfl (by kernel_rfl) rfl ?_ ?_
  · exact ones (by rfl) $ ones (by rfl) $ ones_nil
  intro w4 hM
  refine Kc rfl $ C.ret $ X.retT $ retAT rfl rfl rfl U39 rfl (by exact hM.blk 0 rfl) (by kernel_rfl) ?_
  exact ⟨(none, 0, 0), ([], []), 9, rfl, (hM.pick [] (by decide)).nil u8 5, .inr ⟨by decide, by rw [hd, if_neg (by omega), if_pos hk4], rfl⟩⟩
 have hk4 : let4 ((l.drop 4).take 4) := by simpa using hC1
 refine Kk $ C.seq $ Kb $ Kf rfl $ E.lenv rfl (Rd.shape (hM.arg0 hl)) U22 rfl $ E.sub' rfl rfl (by omega) rfl $ Kp rfl $ Ka $ C.cond' rfl (fun hC2 => ?_) (fun hC2 => ?_)
 ·
  refine Kb $ E.buildC (cs := [_, _]) [.string .empty, .slice none 0 0] [] rfl rfl (by kernel_rfl) rfl ?_
  first
   | refine E.storeAM 0 hM rfl rfl rfl (by kernel_rfl) rfl ?_ ?_
   | refine E.storeAM 1 hM rfl rfl rfl (by kernel_rfl) rfl ?_ ?_
   | refine E.storeAM 2 hM rfl rfl rfl (by kernel_rfl) rfl ?_ ?_
   | refine E.storeAM 3 hM rfl rfl rfl (by kernel_rfl) rfl ?_ ?_
  · exact ones (by rfl) $ ones (by rfl) $ ones_nil
  intro w5 hM
  refine Kc rfl $ C.ret $ X.retT $ retAT rfl rfl rfl U39 rfl (by exact hM.blk 0 rfl) (by kernel_rfl) ?_
  exact ⟨(none, 0, 0), ([], []), 10, rfl, (hM.pick [] (by decide)).nil u8 5, .inr ⟨by decide, by rw [hd, if_neg (by omega), if_neg (Decidable.not_not.2 hk4), if_pos (by omega)], rfl⟩⟩
 have r28 := (hM.arg0 hl).partV (a := 4) (b := 8 + Jn.dec4 l) (by omega) (by omega)
 have e28 : cutL 4 (8 + Jn.dec4 l) l = (l.drop 4).take (Jn.dec4 l + 4) := by rw [cutL, show 8 + Jn.dec4 l - 4 = Jn.dec4 l + 4 by omega]
 rw [e28] at r28
 have r34 := (hM.arg0 hl).partV (a := 8 + Jn.dec4 l) (b := l.length) (by omega) (by omega)
 rw [cut_all] at r34
 have r43 := (hM.arg0 hl).partV (a := 8) (b := 8 + Jn.dec4 l) (by omega) (by omega)
 rw [cutL, Nat.add_sub_cancel_left] at r43
 refine Kk $ C.seq $ C.seq $ C.drawn (by kernel_rfl) (by kernel_rfl) $ Q.mv rfl rfl $ Q.mv rfl rfl $ Q.addN (a := 8) rfl rfl (by omega) rfl $ Q.slcP 4 (8 + Jn.dec4 l) rfl (.inl rfl) (.inl rfl) (hM.arg0 hl) U22 (by kernel_rfl) (by omega) (by omega) rfl $ Q.call (v := u32 (Crc.crc ((l.drop 4).take (Jn.dec4 l + 4)))) rfl rfl (fun w' hw' => CRC32_ret _ _ w' (r28.ext hw')) ?_
 have hcr := Jn.crcN_lt ((l.drop 4).take (Jn.dec4 l + 4))
 have hdr := Jn.dec4_lt (l.drop (8 + Jn.dec4 l))
 rw [crc_u32]
 refine Q.conv rfl U58 U3 (IntWalk.i64_in _ (by omega)) rfl $ Q.mv rfl rfl $ Q.mv rfl rfl $ Q.addN (a := 8) rfl rfl (by omega) rfl $ Q.slcP (k' := .i64) (8 + Jn.dec4 l) l.length rfl (.inl rfl) (.inr ⟨rfl, rfl⟩) (hM.arg0 hl) U22 (by kernel_rfl) (by omega) (by omega) rfl $ Q.call (v := i64 (Jn.dec4 (l.drop (8 + Jn.dec4 l)) : Int)) rfl rfl (fun w' hw' => gnumber_ret _ _ w' (r34.ext hw') (by rw [List.length_drop]; omega)) $ Q.bin rfl rfl rfl rfl $ Q.nil $ fun w6 hx6 => ?_
 have hM := hM.ext hx6
 refine X.next $ C.cond' rfl (fun hC3 => ?_) (fun hC3 => ?_)
 ·
  refine Kb $ E.buildC (cs := [_, _]) [.string .empty, .slice none 0 0] [] rfl rfl (by kernel_rfl) rfl ?_
  first
   | refine E.storeAM 0 hM rfl rfl rfl (by kernel_rfl) rfl ?_ ?_
   | refine E.storeAM 1 hM rfl rfl rfl (by kernel_rfl) rfl ?_ ?_
   | refine E.storeAM 2 hM rfl rfl rfl (by kernel_rfl) rfl ?_ ?_
   | refine E.storeAM 3 hM rfl rfl rfl (by kernel_rfl) rfl ?_ ?_
  · exact ones (by rfl) $ ones (by rfl) $ ones_nil
  intro w7 hM
  refine Kc rfl $ C.ret $ X.retT $ retAT rfl rfl rfl U39 rfl (by exact hM.blk 0 rfl) (by kernel_rfl) ?_
  exact ⟨(none, 0, 0), ([], []), 26, rfl, (hM.pick [] (by decide)).nil u8 5, .inr ⟨by decide, by rw [hd, if_neg (by omega), if_neg (Decidable.not_not.2 hk4), if_neg (by omega), if_pos (by omega)], rfl⟩⟩
 refine Kk $ Kb $ Km rfl $ E.mkM (enc := u8) (e := 5) [] hM rfl (fun _ => by kernel_rfl) rfl rfl rfl ?_
 intro v39 w8 hM
 refine Kf rfl $ E.addN (a := 8) rfl rfl (by omega) rfl $ E.slcP 8 (8 + Jn.dec4 l) rfl (.inl rfl) (.inl rfl) (hM.arg0 hl) U22 (by kernel_rfl) (by omega) (by omega) rfl $ E.appendM 1 hM rfl rfl rfl U22 elem_Tuint8 (by have := (hM.arg0 hl).partV (a := 8) (b := 8 + Jn.dec4 l) (by omega) (by omega); rw [cutL, Nat.add_sub_cancel_left] at this; exact this) (fun _ => rfl) (by rw [List.length_take, List.length_drop, List.length_nil]; omega) (by rw [List.length_take, List.length_drop, List.length_nil]; omega) rfl ?_
 intro v44 w9 hM
 obtain ⟨x44, rfl⟩ := own_head (hM.own 1 rfl)
 refine E.buildC (cs := [_, _]) [.string .empty, .slice none 0 0] [0, 1] rfl rfl (by kernel_rfl) rfl $ E.storeAM 0 hM rfl rfl rfl (by kernel_rfl) rfl (ones rfl $ ones rfl $ ones_nil) ?_
 intro w10 hM
 refine Kc rfl $ C.ret $ retAT rfl rfl rfl U39 rfl (by exact hM.blk 0 rfl) (by kernel_rfl) ?_
 exact ⟨x44, (((l.drop 4).take 4), (l.drop 8).take (Jn.dec4 l)), 0, rfl, hM.pick [1] (by decide), .inl ⟨rfl, by rw [hd, if_neg (by omega), if_neg (Decidable.not_not.2 hk4), if_neg (by omega), if_neg (by omega)]⟩⟩
end Go.Proofs.YtajklleiifhipaaGreatDoor
namespace Go.Proofs.YtajklleiifhipaaGreatDoor
open Go.RowKit Sym
open Pg
theorem cut_tk {α : Type} (k : Nat) (l : List α) : cutL 0 k l = l.take k := by unfold cutL; rw [List.drop_zero, Nat.sub_zero]
def cke (x : List UInt8 × Hd) : List Value := [str x.1, slv x.2]
def zc (l : List Ck) (hs : List Hd) : List (List UInt8 × Hd) := List.zipWith (fun c h => (c.1, h)) l hs
theorem zc_len {l : List Ck} {hs : List Hd} (h : hs.length = l.length) : (zc l hs).length = l.length := by unfold zc; rw [List.length_zipWith, h, Nat.min_self]
theorem zc_push {l : List Ck} {hs : List Hd} (h : hs.length = l.length) (c : Ck) (x : Hd) : zc l hs ++ [(c.1, x)] = zc (l ++ [c]) (hs ++ [x]) := by unfold zc; rw [List.zipWith_append h.symm]; rfl
theorem zc_get {l : List Ck} {hs : List Hd} (h : hs.length = l.length) {i : Nat} (hi : i < l.length) : (zc l hs)[i]'(by rw [zc_len h]; exact hi) = ((l[i]).1, hs[i]'(by omega)) := by unfold zc; rw [List.getElem_zipWith]
abbrev ChR (v : Value) (hs : List Hd) (l : List Ck) : List Rg := [Rg.slF cke 2 39 v (zc l hs), Rg.bag hs (l.map (·.2))]
def ChsV (r : Except Int (List Ck)) (l : List Ck) (e : Int) : Prop := (e = 0 ∧ r = .ok l) ∨ (e ≠ 0 ∧ r = .error e ∧ l = [])
namespace Pg
def pre (l : List Ck) (r : Except Int (List Ck)) : Except Int (List Ck) := match r with
 | .error e => .error e
 | .ok q => .ok (l ++ q)
theorem pre_nil (r : Except Int (List Ck)) : pre [] r = r := by cases r <;> rfl
theorem chs_e {n : Nat} {l : List UInt8} {e : Int} (h : hd l = .error e) : chs (n + 1) l = .error e := by rw [chs, h]
theorem chs_go {n : Nat} {l : List UInt8} {c : Ck} {d : List Ck} (h : hd l = .ok c) (hc : c.1 ≠ tE) : pre d (chs (n + 1) l) = pre (d ++ [c]) (chs n (l.drop (12 + c.2.length))) := by
 rw [chs, h]
 simp only
 rw [if_neg hc]
 cases chs n (l.drop (12 + c.2.length)) with
 | error e => rfl
 | ok q => simp [pre]
theorem chs_end1 {n : Nat} {l : List UInt8} {c : Ck} (h : hd l = .ok c) (hc : c.1 = tE) (h2 : c.2 ≠ []) : chs (n + 1) l = .error 9 := by
 rw [chs, h]
 simp only
 rw [if_pos hc, if_pos h2]
theorem chs_end2 {n : Nat} {l : List UInt8} {c : Ck} (h : hd l = .ok c) (hc : c.1 = tE) (h2 : ¬ c.2 ≠ []) (h3 : l.drop (12 + c.2.length) ≠ []) : chs (n + 1) l = .error 11 := by
 rw [chs, h]
 simp only
 rw [if_pos hc, if_neg h2, if_pos h3]
theorem chs_end3 {n : Nat} {l : List UInt8} {c : Ck} (h : hd l = .ok c) (hc : c.1 = tE) (h2 : ¬ c.2 ≠ []) (h3 : ¬ l.drop (12 + c.2.length) ≠ []) : chs (n + 1) l = .ok [c] := by
 rw [chs, h]
 simp only
 rw [if_pos hc, if_neg h2, if_neg h3]
theorem ne_len {α : Type} {l : List α} (h : 0 < l.length) : l ≠ [] := fun e => by rw [e] at h; simp at h
theorem eq_len {α : Type} {l : List α} (h : ¬ 0 < l.length) : ¬ l ≠ [] := fun k => k (List.length_eq_zero_iff.1 (by omega))
end Pg
set_option maxHeartbeats 2000000 in
theorem Chunks_ret (p : Value) (l : List UInt8) (w : World) (hl : RdL u8 w p l) :
  Ret Tryz.prog 13 #[p] w fun v w' => ∃ (vo : Value) (hs : List Hd) (cs : List Ck) (e : Int), v = .tuple #[vo, i64 e] ∧ M w Nn w' (ChR vo hs cs) ∧ ChsV (rdf l) cs e := by
 have hM := M.start w
 refine enter Tryz.func13 rfl (by kernel_rfl) Tryz.ntmps13 rfl $ Kb $ Kn rfl $ Kc rfl $ C.seq $ Kb $ Km rfl $ E.lenv rfl (Rd.shape (hM.arg0 hl)) U22 rfl $ Kp rfl $ Ka $ C.cond' rfl (fun hC0 => ?_) (fun hC0 => ?_)
 ·
  refine Kb $ Kn rfl $ Kc rfl $ C.ret $ X.retT $ ret2 rfl rfl rfl ?_
  exact ⟨nilS, [], [], 4, rfl, ((hM.pick [] (by decide)).nilF cke 2 39).bagNil, .inr ⟨by decide, by rw [rdf, if_pos (by omega)], rfl⟩⟩
 refine Kk $ C.seq $ C.chainE [(0, _)] rfl [(18, .bool (decide (l.take 8 ≠ sig)))] ?_ ?_
 ·
  refine C.region $ Km rfl $ E.lenv rfl (Rd.shape (hM.arg0 hl)) U22 rfl $ Kp rfl $ Km rfl $ E.split 13 rfl (fun g13 => ?_) (fun g13 => ?_)
  ·
   try simp only [Ya, Yb, Yc, Yd, Ye, Yf] at g13
   refine Kq rfl $ Kq rfl $ Kq rfl $ Kq rfl $ Kr rfl $ E.nil $ X.join0 (Sub.cons (look_eq rfl (congrArg Value.bool (by exact (decide_eq_true (p := l.take 8 ≠ sig) (fun h => by have := congrArg List.length h; rw [List.length_take, show sig.length = 8 from rfl] at this; omega)).symm))) $ Sub.nil _) rfl rfl
  try simp only [Ya, Yb, Yc, Yd, Ye, Yf] at g13
  refine Ko rfl $ Km rfl $ Ko rfl $ E.slcP (k := .i64) 0 8 rfl (.inr ⟨rfl, rfl⟩) (.inl rfl) (hM.arg0 hl) U22 (by kernel_rfl) (by omega) (by omega) rfl $ Ko rfl $ E.bstr rfl (by have := (hM.arg0 hl).partV (a := 0) (b := 8) (by omega) (by omega); rw [cut_tk] at this; exact this) U22 U5 U9 rfl $ Ko rfl $ E.nestr (l := l.take 8) (m := sig) rfl rfl rfl $ Kr rfl $ E.nil $ X.join0 (Sub.cons (look_eq rfl (congrArg Value.bool (by rfl))) $ Sub.nil _) rfl rfl
 refine C.cond' rfl (fun hC1 => ?_) (fun hC1 => ?_)
 ·
  refine Kb $ Kn rfl $ Kc rfl $ C.ret $ X.retT $ ret2 rfl rfl rfl ?_
  exact ⟨nilS, [], [], 25, rfl, ((hM.pick [] (by decide)).nilF cke 2 39).bagNil, .inr ⟨by decide, by rw [rdf, if_neg (by omega), if_pos hC1], rfl⟩⟩
 have h8 : 8 ≤ l.length := by
  have := congrArg List.length (Decidable.not_not.1 hC1)
  rw [List.length_take, show sig.length = 8 from rfl] at this; omega
 have hrd : rdf l = chs 1024 (l.drop 8) := by rw [rdf, if_neg (by omega), if_neg hC1]
 have r8 := hl.partV (a := 8) (b := l.length) (by omega) (by omega)
 rw [cut_all] at r8
 refine Kk $ Kb $ Km rfl $ E.slcP (k' := .i64) 8 l.length rfl (.inl rfl) (.inr ⟨rfl, rfl⟩) (hM.arg0 hl) U22 (by kernel_rfl) (by omega) (by omega) rfl $ Kd rfl $ Kc rfl $ C.block $ ?_
 have hM := (hM.nilF cke 2 39).bagNil
 try dsimp only [List.nil_append, List.cons_append] at hM
 refine C.loop5 [] rfl (fun (v4 : Value) (hs : (List Hd)) (done : (List Ck)) (vp : Value) (rest : (List UInt8)) => [(0, vp), (4, v4)]) (fun (v4 : Value) (hs : (List Hd)) (done : (List Ck)) (vp : Value) (rest : (List UInt8)) w' => M w (Nn) w' (ChR v4 hs done) ∧ RdL u8 w vp rest ∧ rest.length ≤ l.length ∧ done.length ≤ 1024 ∧ rdf l = pre done (chs (1024 - done.length) rest)) (fun (v4 : Value) (hs : (List Hd)) (done : (List Ck)) (vp : Value) (rest : (List UInt8)) => 1024 - done.length) nilS [] [] (partV p 8 l.length) (l.drop 8) ?_ ?_ ?_
 · exact Sub.cons rfl $ S1 rfl
 · exact ⟨hM, r8, by rw [List.length_drop]; omega, by simp, by rw [pre_nil]; exact hrd⟩
 rintro v4 hs done vp rest w0 ⟨hM, hR, hrl, hdl, hI⟩
 have hbl : hs.length = done.length := by have := (hM.bag 1 rfl).1; rw [List.length_map] at this; exact this
 refine C.block $ C.seq $ Kb $ Km rfl $ E.lenv rfl (RdF.shape (hM.slF 0 rfl)) U35 rfl ?_
 rw [zc_len hbl]
 refine Kp rfl $ Ka $ C.cond' rfl (fun hC2 => ?_) (fun hC2 => ?_)
 ·
  refine Kb $ Kn rfl $ Kc rfl $ C.ret $ X.retT $ X.retB $ X.retT $ X.retB $ ret2 rfl rfl rfl ?_
  exact ⟨nilS, [], [], 4, rfl, ((hM.pick [] (by decide)).nilF cke 2 39).bagNil, .inr ⟨by decide, by rw [hI, show 1024 - done.length = 0 by omega]; rfl, rfl⟩⟩
 obtain ⟨n, hn⟩ : ∃ n, 1024 - done.length = n + 1 := ⟨1024 - done.length - 1, by omega⟩
 rw [hn] at hI
 refine Kk $ Kb $ Km rfl $ E.call rfl rfl (chunk_ret vp rest _ (hM.arg0 hR) (by omega)) ?_
 rintro _ w1 ⟨x, c, e, rfl, m, hv⟩
 have hM := hM.call m
 have hsx := Rd.shape (hM.sl 2 rfl)
 refine Km rfl $ E.ext rfl rfl rfl $ E.ext rfl rfl rfl $ E.allocM (z := .agg #[.string .empty, .slice none 0 0]) (cs := [.string .empty, .slice none 0 0]) hM (by kernel_rfl) rfl rfl ?_
 intro b5 w2 hM
 refine E.storeAM 3 hM rfl rfl rfl (by kernel_rfl) rfl (ones rfl $ ones rfl $ ones_nil) ?_
 intro w3 hM
 refine Kc rfl $ C.seq $ Kb $ Km rfl $ Kp rfl $ Ka $ C.cond' rfl (fun hC3 => ?_) (fun hC3 => ?_)
 ·
  obtain ⟨h1, h2, _⟩ := hv.resolve_left (fun h => hC3 h.1)
  refine Kb $ Km rfl $ Kn rfl $ Kc rfl $ C.ret $ X.retT $ X.retB $ X.retT $ X.retB $ ret2 rfl rfl rfl ?_
  exact ⟨nilS, [], [], e, rfl, ((hM.pick [] (by decide)).nilF cke 2 39).bagNil, .inr ⟨by omega, by rw [hI, chs_e h2]; rfl, rfl⟩⟩
 obtain ⟨_, hh⟩ := hv.resolve_right (fun h => hC3 h.1)
 obtain ⟨hc1, hc2, hc3, hc4⟩ := hd_len hh
 have hzl := zc_len hbl
 refine Kk $ Kb $ Km rfl $ E.loadA (cs := [str c.1, slv x]) rfl U39 rfl (by kernel_rfl) (hM.bat 3 rfl) rfl $ E.pushFM 0 (c.1, x) hM rfl rfl rfl U35 elem_Tapi_Chunk rfl (by decide) (ones rfl $ ones rfl $ ones_nil) (by omega) (by omega) (by simp) rfl rfl ?_
 intro v35 u35 w4 hM
 rw [zc_push hbl] at hM
 have hM := hM.bagPush 1 2 (by decide) rfl rfl
 try dsimp only [List.set_cons_zero, List.set_cons_succ] at hM
 rw [show done.map (·.2) ++ [c.2] = (done ++ [c]).map (·.2) from by simp] at hM
 refine Kd rfl $ Km rfl $ E.fld (o := 1) (sz := 0) rfl U39 rfl rfl (by kernel_rfl) rfl $ E.load rfl U22 rfl (hM.bcell 3 rfl rfl) rfl $ E.lenv rfl hsx U22 rfl $ E.addN (a := 12) (b := c.2.length) rfl rfl (by omega) rfl $ E.slcP (k' := .i64) (12 + c.2.length) rest.length rfl (.inl rfl) (.inr ⟨rfl, rfl⟩) (hM.arg0 hR) U22 (by kernel_rfl) (by omega) (by omega) rfl ?_
 have hR2 := hR.partV (a := 12 + c.2.length) (b := rest.length) (by omega) (by omega)
 rw [cut_all] at hR2
 have hdl2 : (rest.drop (12 + c.2.length)).length = rest.length - (12 + c.2.length) := List.length_drop
 refine Kc rfl $ C.seq $ Kb $ E.fld (o := 0) (sz := 0) rfl U39 rfl rfl (by kernel_rfl) rfl $ E.load rfl U9 rfl (hM.bcell 3 rfl rfl) rfl $ E.nestr (l := c.1) (m := tE) rfl rfl rfl $ Ka $ C.cond' rfl (fun hC4 => ?_) (fun hC4 => ?_)
 ·
  refine C.exit $ X.exitT $ X.outE $ X.again5 _ (hs ++ [x]) (done ++ [c]) _ (rest.drop (12 + c.2.length)) (Sub.cons rfl $ S1 rfl) rfl ⟨hM.pick [0, 1] (by decide), hR2, by omega, by rw [List.length_append, List.length_singleton]; omega, by rw [hI, chs_go hh hC4, List.length_append, List.length_singleton, show 1024 - (done.length + 1) = n by omega]⟩ (by rw [List.length_append, List.length_singleton]; omega)
 have hce := Decidable.not_not.1 hC4
 refine Kk $ C.seq $ Kb $ E.fld (o := 1) (sz := 0) rfl U39 rfl rfl (by kernel_rfl) rfl $ E.load rfl U22 rfl (hM.bcell 3 rfl rfl) rfl $ E.lenv rfl hsx U22 rfl $ Kp rfl $ Ka $ C.cond' rfl (fun hC5 => ?_) (fun hC5 => ?_)
 ·
  refine Kb $ Kn rfl $ Kc rfl $ C.ret $ X.retT $ X.retB $ X.retT $ X.retB $ ret2 rfl rfl rfl ?_
  exact ⟨nilS, [], [], 9, rfl, ((hM.pick [] (by decide)).nilF cke 2 39).bagNil, .inr ⟨by decide, by rw [hI, chs_end1 hh hce (ne_len (by omega))]; rfl, rfl⟩⟩
 refine Kk $ C.seq $ Kb $ Km rfl $ E.lenv rfl (Rd.shape (hM.arg0 hR2)) U22 rfl $ Kp rfl $ Ka $ C.cond' rfl (fun hC6 => ?_) (fun hC6 => ?_)
 ·
  refine Kb $ Kn rfl $ Kc rfl $ C.ret $ X.retT $ X.retB $ X.retT $ X.retB $ ret2 rfl rfl rfl ?_
  exact ⟨nilS, [], [], 11, rfl, ((hM.pick [] (by decide)).nilF cke 2 39).bagNil, .inr ⟨by decide, by rw [hI, chs_end2 hh hce (eq_len (by omega)) (ne_len (by omega))]; rfl, rfl⟩⟩
 refine Kk $ Kb $ Km rfl $ Kn rfl $ Kc rfl $ C.ret $ X.retB $ X.retT $ X.retB $ ret2 rfl rfl rfl ?_
 exact ⟨_, hs ++ [x], done ++ [c], 0, rfl, hM.pick [0, 1] (by decide), .inl ⟨rfl, by rw [hI, chs_end3 hh hce (eq_len (by omega)) (eq_len (by omega))]; rfl⟩⟩
end Go.Proofs.YtajklleiifhipaaGreatDoor
