/- What the CRC-16 functions return. -/
import Derived.Test.YtmekdfkcjhgkdaaCrc
import Derived.Test.YtmekdfkcjhgkdaaCrc16Math
namespace Go.Proofs.Ytmekdfkcjhgkdaa
open Go.RowKit Sym

abbrev u16 (x : BitVec 16) : Value := .int .u16 (x.toNat : Int)
theorem bits_xor16 (x y : BitVec 16) : bits .xor .u16 (x.toNat : Int) (y.toNat : Int) = ((x ^^^ y).toNat : Int) := by
  rw [u16_xor_nat _ _ x.isLt y.isLt]; rfl
theorem shl16 (x : BitVec 16) (k : Nat) : IntKind.u16.wrap ((x.toNat : Int) * 2 ^ k) = ((x <<< k).toNat : Int) := by
  rw [IntKind.wrap_u16, BitVec.toNat_shiftLeft, Nat.shiftLeft_eq]
  simp
theorem top16 (x : BitVec 16) : x.getLsbD 15 = decide (32768 ≤ x.toNat) := by
  have := BitVec.msb_eq_decide x
  rw [BitVec.msb_eq_getLsbD_last] at this
  simpa using this
theorem out_iff (x : BitVec 16) : (x.toNat : Int) / 32768 = 1 ↔ x.getLsbD 15 = true := by
  have := x.isLt
  rw [top16, decide_eq_true_eq]; omega
theorem ge_iff (x : BitVec 16) : (32768 : Int) ≤ (x.toNat : Int) ↔ x.getLsbD 15 = true := by
  rw [top16, decide_eq_true_eq]; omega
theorem step16A (x : BitVec 16) (h : x.getLsbD 15 = true) : bits .xor .u16 ((x <<< 1).toNat : Int) 4129 = ((Crc16.step x).toNat : Int) := by
  have := bits_xor16 (x <<< 1) 0x1021#16
  unfold Crc16.step; rw [if_pos h]; exact this
theorem step16B (x : BitVec 16) (h : ¬ x.getLsbD 15 = true) : Crc16.step x = x <<< 1 := by
  unfold Crc16.step; rw [if_neg h]

/-- the table after k entries -/
def tabH (k : Nat) : List Value := (List.range 256).map fun i => if i < k then u16 (Crc16.steps 8 (BitVec.ofNat 16 (i * 256))) else .int .u16 0
theorem tabH_len (k : Nat) : (tabH k).length = 256 := by simp [tabH]
theorem tabH_get (k i : Nat) (h : i < 256) : (tabH k)[i]? = some (if i < k then u16 (Crc16.steps 8 (BitVec.ofNat 16 (i * 256))) else .int .u16 0) := by simp [tabH, h]
theorem tabH_succ (k : Nat) (h : k < 256) : (tabH k).toArray.setIfInBounds k (u16 (Crc16.steps 8 (BitVec.ofNat 16 (k * 256)))) = (tabH (k + 1)).toArray := by
  rw [List.setIfInBounds_toArray]
  congr 1
  apply List.ext_getElem?
  intro i
  by_cases hi : i < 256
  · rw [List.getElem?_set, tabH_get _ _ hi, tabH_get _ _ hi, tabH_len]
    by_cases e : k = i
    · subst e; simp [h]
    · have : (i < k + 1) = (i < k) := by simp; omega
      simp [e, this]
  · rw [List.getElem?_eq_none (by simp [tabH_len]; omega), List.getElem?_eq_none (by rw [tabH_len]; omega)]
theorem tabH_one (k : Nat) : ∀ u ∈ tabH k, u.oneCell' = true := by
  intro u hu
  simp only [tabH, List.mem_map] at hu
  obtain ⟨i, _, rfl⟩ := hu
  split <;> rfl
theorem byte16 (k : Nat) : IntKind.u16.wrap ((k : Int) * 2 ^ min (8 : Int).toNat IntKind.u16.bits) = ((BitVec.ofNat 16 (k * 256)).toNat : Int) := by
  rw [IntKind.wrap_u16, BitVec.toNat_ofNat]
  simp [IntKind.bits]

theorem table16_ret (w : World) :
    Ret Try.prog 32 #[] w fun v w' => v = .agg (tabH 256).toArray ∧ Ext w w' := by
  refine enter Try.func32 rfl (by kernel_rfl) Try.ntmps32 rfl ?_
  refine C.seq <| C.region <| ?_
  refine E.alloc (z := .agg (tabH 0).toArray) (by kernel_rfl) rfl ?_
  refine E.nil <| X.next <| C.seq <| C.region <| ?_
  refine E.alloc (z := .agg (tabH 0).toArray) (by kernel_rfl) rfl ?_
  refine E.nil <| X.next <| C.seq <| C.seq <| C.region <| E.mv rfl rfl <| E.nil <| X.next <| C.block <| ?_
  have e1 : (w.alloc (.cells (Value.agg (tabH 0).toArray).cells 57)).heap.size = w.heap.size + 1 := World.size_alloc ..
  rw [e1]

  refine C.loop (G := Nat) (fun k => [(0, .pointer (some ⟨w.heap.size, 0, none⟩)), (1, .pointer (some ⟨w.heap.size + 1, 0, none⟩)), (5, i64 k)]) (fun k w' => k ≤ 256 ∧ Blk w' w.heap.size 57 (tabH 0).toArray ∧ Blk w' (w.heap.size + 1) 57 (tabH k).toArray ∧ Ext w w') (fun k => 256 - k) 0 ?_ ?_ ?_
  · exact Sub.cons rfl <| Sub.cons rfl <| Sub.cons rfl <| Sub.nil _
  · exact ⟨by omega, (Blk.new w _ _).alloc _, by have := Blk.new (w.alloc (.cells (Value.agg (tabH 0).toArray).cells 57)) 57 (tabH 0).toArray; rw [e1] at this; exact this, (Ext.new _ _).alloc _⟩
  · rintro k wk ⟨hk, h0, h1, hx⟩
    refine C.seq <| C.region <| E.bin rfl rfl rfl rfl <| E.nil <| X.next <| C.seq <| ?_
    refine C.cond' rfl (fun hc => ?_) (fun hc => ?_)
    ·
      have hk' : k < 256 := by omega
      refine C.skip <| X.next <| C.seq <| C.block <| C.seq <| C.region <| E.mv rfl rfl <| E.asg rfl rfl <| E.nil <| X.next <| C.seq <| C.region <| E.mv rfl rfl <| ?_
      refine E.conv rfl Try.underlying3 Try.underlying27 (IntWalk.u16_in _ (by omega)) rfl ?_
      refine E.shl rfl rfl (by omega) (byte16 k) rfl ?_
      refine E.asg rfl rfl <| E.nil <| X.next <| C.seq <| C.seq <| C.region <| E.mv rfl rfl <| E.nil <| X.next <| C.block <| ?_

      refine C.loop (G := Nat) (fun m => [(0, .pointer (some ⟨w.heap.size, 0, none⟩)), (1, .pointer (some ⟨w.heap.size + 1, 0, none⟩)), (2, i64 k), (3, u16 (Crc16.steps m (BitVec.ofNat 16 (k * 256)))), (5, i64 k), (11, i64 m)]) (fun m w' => m ≤ 8 ∧ wk = w') (fun m => 8 - m) 0 ?_ ?_ ?_
      · exact Sub.cons rfl <| Sub.cons rfl <| Sub.cons rfl <| Sub.cons rfl <| Sub.cons rfl <| Sub.cons rfl <| Sub.nil _
      · exact ⟨by omega, rfl⟩
      · rintro m _ ⟨hm, rfl⟩
        refine C.seq <| C.region <| E.bin rfl rfl rfl rfl <| E.nil <| X.next <| C.seq <| ?_
        refine C.cond' rfl (fun hc => ?_) (fun hc => ?_)
        ·
          refine C.skip <| X.next <| ?_
          generalize hX : Crc16.steps m (BitVec.ofNat 16 (k * 256)) = Y

          refine C.cut (G := Unit) (fun _ => [(0, .pointer (some ⟨w.heap.size, 0, none⟩)), (1, .pointer (some ⟨w.heap.size + 1, 0, none⟩)), (2, i64 k), (3, u16 (Crc16.step Y)), (5, i64 k), (11, i64 m)]) (fun _ w' => wk = w') ?_ ?_
          ·
            refine C.block <| C.seq <| C.region <| E.mv rfl rfl <| ?_
            refine E.shr rfl rfl (by decide) (c := _ / 32768) rfl rfl ?_
            refine E.asg rfl rfl <| E.nil <| X.next <| C.seq <| C.region <| E.mv rfl rfl <| ?_
            refine E.shl rfl rfl (by omega) (shl16 Y 1) rfl ?_
            refine E.asg rfl rfl <| E.nil <| X.next <| C.seq <| C.region <| E.mv rfl rfl <| E.bin rfl rfl rfl rfl <| E.nil <| X.next <| ?_
            refine C.cond' rfl (fun hc => ?_) (fun hc => ?_)
            ·
              refine C.region <| E.mv rfl rfl <| E.binw rfl rfl rfl (congrArg _ (step16A Y ((out_iff Y).1 hc))) rfl <| E.asg rfl rfl <| E.nil <| X.outN <| X.join () (Sub.cons rfl <| Sub.cons rfl <| Sub.cons rfl <| Sub.cons rfl <| Sub.cons rfl <| Sub.cons rfl <| Sub.nil _) rfl
            ·
              refine C.skip <| X.outN <| X.join () (Sub.cons rfl <| Sub.cons rfl <| Sub.cons rfl <| Sub.cons (by rw [step16B Y (fun h => hc ((out_iff Y).2 h))]; rfl) <| Sub.cons rfl <| Sub.cons rfl <| Sub.nil _) rfl
          ·
            rintro _ _ rfl
            refine C.region <| ?_
            refine E.add rfl rfl (by omega) rfl ?_
            refine E.mv rfl rfl <| E.nil <| X.again (m + 1) (Sub.cons rfl <| Sub.cons rfl <| Sub.cons rfl <| Sub.cons (by rw [Crc16.steps_succ, hX]; rfl) <| Sub.cons rfl <| Sub.cons rfl <| Sub.nil _) ⟨by omega, rfl⟩ (by omega)
        ·
          obtain rfl : m = 8 := by omega
          refine C.exit <| X.exitT <| X.exitT <| X.outE <| X.next <| C.region <| E.mv rfl rfl <| E.mv rfl rfl <| ?_
          refine E.idxA (sz := 1) rfl rfl Try.underlying57 (by kernel_rfl) (by omega) (by omega) rfl ?_
          rw [show 0 + (k : Int).toNat * 1 = k from by omega]
          refine E.store rfl rfl (by kernel_rfl) rfl (by rw [h1.cell, List.getElem?_toArray]; exact tabH_get k k hk') (h1.frozen _) ?_
          refine E.nil <| X.outN <| X.next <| C.region <| ?_
          refine E.add rfl rfl (by omega) rfl ?_
          refine E.mv rfl rfl <| E.nil <| X.again (k + 1) (Sub.cons rfl <| Sub.cons rfl <| Sub.cons rfl <| Sub.nil _) ⟨by omega, h0.setOther (by simp) _, by rw [← tabH_succ k hk']; exact h1.set k _, hx.setCell (by simp) _⟩ (by omega)
    ·
      obtain rfl : k = 256 := by omega
      refine C.exit <| X.exitT <| X.exitT <| X.outE <| X.next <| C.seq <| C.region <| ?_
      refine E.loadA (cs := tabH 256) rfl Try.underlying57 rfl (by rw [tabH_len]; kernel_rfl) (h1.at 0 _ fun j u hu => by rw [Nat.zero_add, List.getElem?_toArray]; exact hu) rfl ?_
      refine E.storeA (cs := tabH 256) rfl rfl (by rw [tabH_len]; kernel_rfl) h0 (by simp [tabH_len]) (tabH_one 256) ?_
      rw [splice_all _ _ (by simp [tabH_len])]
      refine E.nil <| X.next <| C.ret <| retA rfl rfl Try.underlying57 rfl (h0.setRow _) (by rw [tabH_len]; kernel_rfl) ?_
      exact ⟨rfl, hx.setRow (Nat.le_refl _) _⟩

def tix16 (x : BitVec 16) (c : UInt8) : Nat := x.toNat / 256 ^^^ c.toNat
theorem tix16_lt (x : BitVec 16) (c : UInt8) : tix16 x c < 256 := by
  have := x.isLt
  exact Nat.xor_lt_two_pow (n := 8) (by omega) (u8_lt c)
theorem tix16_eq (x : BitVec 16) (c : UInt8) : bits .xor .u8 ((x.toNat : Int) / 256) (c.toNat : Int) = ((tix16 x c : Nat) : Int) := by
  have := x.isLt
  have h : (x.toNat : Int) / 256 = ((x.toNat / 256 : Nat) : Int) := by simp
  rw [h, u8_xor_nat _ _ (by omega) (u8_lt c)]; rfl
theorem ext16_toNat (c : UInt8) : (Crc16.ext c).toNat = c.toNat * 256 := by
  have := u8_lt c
  simp [Crc16.ext]; omega
theorem shl8_ext (x : BitVec 16) (c : UInt8) : (x ^^^ Crc16.ext c) <<< 8 = x <<< 8 := by
  rw [Crc16.shl_xor]
  have : Crc16.ext c <<< 8 = 0#16 := by
    apply BitVec.eq_of_toNat_eq
    rw [BitVec.toNat_shiftLeft, ext16_toNat, Nat.shiftLeft_eq]; simp; omega
  rw [this]; simp
theorem high8_ext (x : BitVec 16) (c : UInt8) : (x ^^^ Crc16.ext c) &&& 0xff00#16 = BitVec.ofNat 16 (tix16 x c * 256) := by
  apply BitVec.eq_of_toNat_eq
  have h1 := tix16_lt x c
  have h2 := u8_lt c
  have h3 := x.isLt
  have hr : (BitVec.ofNat 16 (tix16 x c * 256)).toNat = tix16 x c * 256 := by rw [BitVec.toNat_ofNat]; omega
  rw [BitVec.toNat_and, BitVec.toNat_xor, ext16_toNat, hr, tix16]
  apply Nat.eq_of_testBit_eq
  intro i
  rw [Nat.testBit_and, Nat.testBit_xor, show (256 : Nat) = 2 ^ 8 from rfl, Nat.testBit_mul_two_pow, Nat.testBit_mul_two_pow, Nat.testBit_xor, Nat.testBit_div_two_pow]
  by_cases hi : i < 16
  · have hm : ∀ i, i < 16 → (0xff00#16).toNat.testBit i = decide (8 ≤ i) := by decide
    rw [hm i hi]
    by_cases h8 : 8 ≤ i
    · simp [h8]
    · simp [h8]
  · have hm : (0xff00#16).toNat.testBit i = false := Nat.testBit_lt_two_pow (Nat.lt_of_lt_of_le (by decide : (0xff00#16).toNat < 2 ^ 16) (Nat.pow_le_pow_right (by decide) (by omega)))
    have hx : x.toNat.testBit i = false := Nat.testBit_lt_two_pow (Nat.lt_of_lt_of_le h3 (Nat.pow_le_pow_right (by decide) (by omega)))
    have hc : c.toNat.testBit (i - 8) = false := Nat.testBit_lt_two_pow (Nat.lt_of_lt_of_le (by simpa using h2 : c.toNat < 2 ^ 8) (Nat.pow_le_pow_right (by decide) (by omega)))
    rw [hm, show i - 8 + 8 = i from by omega, hx, hc]; simp
theorem upd16_eq (x : BitVec 16) (c : UInt8) : bits .xor .u16 ((x <<< 8).toNat : Int) ((Crc16.steps 8 (BitVec.ofNat 16 (tix16 x c * 256))).toNat : Int) = ((Crc16.steps 8 (x ^^^ Crc16.ext c)).toNat : Int) := by
  rw [bits_xor16, Crc16.steps8_split (x ^^^ Crc16.ext c), shl8_ext, high8_ext]
theorem reg16_take (x : BitVec 16) (l : List UInt8) (k : Nat) (h : k < l.length) : Crc16.reg x (l.take (k + 1)) = Crc16.steps 8 (Crc16.reg x (l.take k) ^^^ Crc16.ext l[k]) := by
  rw [List.take_succ_eq_append_getElem h, Crc16.reg_snoc]

theorem CRC16_ret (p : Value) (l : List UInt8) (w : World) (hp : RdL u8 w p l) :
    Ret Try.prog 17 #[p] w fun v w' => v = u16 (Crc16.crc l) ∧ Ext w w' := by
  have hle : l.length ≤ 9223372036854775807 := Rd.le hp
  refine enter Try.func17 rfl (by kernel_rfl) Try.ntmps17 rfl ?_
  refine C.seq <| C.region <| E.asg rfl rfl <| E.nil <| X.next <| C.seq <| C.region <| ?_
  refine E.call rfl rfl (table16_ret _) ?_
  rintro _ w1 ⟨rfl, hx1⟩
  refine E.alloc (z := .agg (tabH 0).toArray) (by kernel_rfl) rfl ?_
  refine E.storeA (cs := tabH 256) rfl rfl (by rw [tabH_len]; kernel_rfl) (Blk.new w1 57 (tabH 0).toArray) (by simp [tabH_len]) (tabH_one 256) ?_
  rw [splice_all _ _ (by simp [tabH_len]), show (Value.agg (tabH 0).toArray).cells = (tabH 0).toArray from rfl, setRow_alloc]
  have hb2 := Blk.new w1 57 (tabH 256).toArray
  have hx2 := hx1.alloc (.cells (tabH 256).toArray 57)
  revert hb2 hx2
  generalize w1.alloc (.cells (tabH 256).toArray 57) = w2
  generalize w1.heap.size = B
  intro hb2 hx2
  have hp2 : RdL u8 w2 p l := hp.ext hx2
  refine E.nil <| X.next <| C.seq <| C.region <| E.asg rfl rfl <| E.nil <| X.next <| C.seq <| C.seq <| C.region <| E.mv rfl rfl <| ?_
  refine E.len rfl hp2 Try.underlying22 rfl ?_
  refine E.mv rfl rfl <| E.nil <| X.next <| C.block <| ?_

  refine C.loop (G := Nat) (fun k => [(3, .pointer (some ⟨B, 0, none⟩)), (4, u16 (Crc16.reg 0xffff#16 (l.take k))), (8, p), (9, i64 l.length), (10, i64 k)]) (fun k w' => k ≤ l.length ∧ w2 = w') (fun k => l.length - k) 0 ?_ ?_ ?_
  · exact Sub.cons rfl <| Sub.cons rfl <| Sub.cons rfl <| Sub.cons rfl <| Sub.cons rfl <| Sub.nil _
  · exact ⟨by omega, rfl⟩
  · rintro k _ ⟨hk, rfl⟩
    refine C.seq <| C.region <| E.bin rfl rfl rfl rfl <| E.nil <| X.next <| C.seq <| ?_
    refine C.cond' rfl (fun hc => ?_) (fun hc => ?_)
    ·
      have hk' : k < l.length := by omega
      generalize hX : Crc16.reg 0xffff#16 (l.take k) = Y
      have ht := tix16_lt Y l[k]
      have hl := Y.isLt
      refine C.skip <| X.next <| C.seq <| C.block <| C.seq <| C.region <| ?_
      refine E.get (k := k) rfl rfl hp2 rfl hk' Try.underlying22 (by kernel_rfl) Try.underlying5 rfl rfl rfl ?_
      refine E.asg rfl rfl <| E.nil <| X.next <| C.region <| E.mv rfl rfl <| ?_
      refine E.shl rfl rfl (by omega) (shl16 Y 8) rfl ?_
      refine E.mv rfl rfl <| ?_
      refine E.shr rfl rfl (by decide) (c := _ / 256) rfl rfl ?_
      refine E.conv rfl Try.underlying27 Try.underlying5 (IntWalk.u8_in _ (by omega)) rfl ?_
      refine E.mv rfl rfl <| E.binw rfl rfl rfl (congrArg _ (tix16_eq _ _)) rfl <| ?_
      refine E.idxA (sz := 1) rfl rfl Try.underlying57 (by kernel_rfl) (by omega) (by omega) rfl ?_
      rw [show 0 + ((tix16 Y l[k] : Nat) : Int).toNat * 1 = tix16 Y l[k] from by omega]
      refine E.load rfl Try.underlying27 rfl (by rw [hb2.cell, List.getElem?_toArray, tabH_get _ _ ht, if_pos ht]) rfl ?_
      refine E.binw rfl rfl rfl (congrArg _ (upd16_eq _ _)) rfl <| E.asg rfl rfl <| E.nil <| X.outN <| X.next <| C.region <| ?_
      refine E.add rfl rfl (by omega) rfl ?_
      refine E.mv rfl rfl <| E.nil <| X.again (k + 1) (Sub.cons rfl <| Sub.cons (by rw [reg16_take _ l k hk', hX]; rfl) <| Sub.cons rfl <| Sub.cons rfl <| Sub.cons rfl <| Sub.nil _) ⟨by omega, rfl⟩ (by omega)
    ·
      obtain rfl : k = l.length := by omega
      refine C.exit <| X.exitT <| X.exitT <| X.outE <| X.next <| C.seq <| C.region <| E.mv rfl rfl <| E.asg rfl rfl <| E.nil <| X.next <| C.ret <| ret1 rfl rfl ?_
      exact ⟨by rw [List.take_length]; rfl, hx2⟩

theorem mul2_16 (x : BitVec 16) : IntKind.u16.wrap ((x.toNat : Int) * 2) = ((x <<< 1).toNat : Int) := shl16 x 1
theorem mul256 (c : UInt8) : IntKind.u16.wrap ((c.toNat : Int) * 256) = ((Crc16.ext c).toNat : Int) := by
  have := u8_lt c
  rw [IntKind.wrap_u16, ext16_toNat]; omega

theorem rCRC16_ret (p : Value) (l : List UInt8) (w : World) (hp : RdL u8 w p l) :
    Ret Try.prog 18 #[p] w fun v w' => v = u16 (Crc16.crc l) ∧ w = w' := by
  have hle : l.length ≤ 9223372036854775807 := Rd.le hp
  refine enter Try.func18 rfl (by kernel_rfl) Try.ntmps18 rfl ?_
  refine C.seq <| C.region <| E.asg rfl rfl <| E.nil <| X.next <| C.seq <| C.region <| E.asg rfl rfl <| E.nil <| X.next <| C.seq <| C.seq <| C.region <| E.asg rfl rfl <| E.nil <| X.next <| C.block <| ?_

  refine C.loop (G := Nat) (fun k => [(0, p), (3, u16 (Crc16.reg 0xffff#16 (l.take k))), (4, i64 k)]) (fun k w' => k ≤ l.length ∧ w = w') (fun k => l.length - k) 0 ?_ ?_ ?_
  · exact Sub.cons rfl <| Sub.cons rfl <| Sub.cons rfl <| Sub.nil _
  · exact ⟨by omega, rfl⟩
  · rintro k _ ⟨hk, rfl⟩
    refine C.seq <| C.seq <| C.region <| E.mv rfl rfl <| E.mv rfl rfl <| ?_
    refine E.len rfl hp Try.underlying22 rfl ?_
    refine E.bin rfl rfl rfl rfl <| E.nil <| X.next <| ?_
    refine C.cond' rfl (fun hc => ?_) (fun hc => ?_)
    ·
      have hk' : k < l.length := by omega
      have hb := u8_lt l[k]
      refine C.skip <| X.next <| C.seq <| C.block <| C.seq <| C.region <| E.mv rfl rfl <| E.mv rfl rfl <| E.mv rfl rfl <| ?_
      refine E.get (k := k) rfl rfl hp rfl hk' Try.underlying22 (by kernel_rfl) Try.underlying5 rfl rfl rfl ?_
      refine E.conv rfl Try.underlying5 Try.underlying27 (IntWalk.u16_in _ (by omega)) rfl ?_
      refine E.binw rfl rfl rfl (congrArg _ (mul256 _)) rfl ?_
      refine E.binw rfl rfl rfl (congrArg _ (bits_xor16 _ _)) rfl <| E.asg rfl rfl <| E.nil <| X.next <| C.seq <| C.region <| E.asg rfl rfl <| E.nil <| X.next <| C.block <| ?_

      refine C.loop (G := Nat) (fun m => [(0, p), (3, u16 (Crc16.steps m (Crc16.reg 0xffff#16 (l.take k) ^^^ Crc16.ext l[k]))), (4, i64 k), (5, i64 m)]) (fun m w' => m ≤ 8 ∧ w = w') (fun m => 8 - m) 0 ?_ ?_ ?_
      · exact Sub.cons rfl <| Sub.cons rfl <| Sub.cons rfl <| Sub.cons rfl <| Sub.nil _
      · exact ⟨by omega, rfl⟩
      · rintro m _ ⟨hm, rfl⟩
        refine C.seq <| C.seq <| C.region <| E.mv rfl rfl <| E.bin rfl rfl rfl rfl <| E.nil <| X.next <| ?_
        refine C.cond' rfl (fun hc => ?_) (fun hc => ?_)
        ·
          refine C.skip <| X.next <| ?_
          generalize hX : Crc16.steps m (Crc16.reg 0xffff#16 (l.take k) ^^^ Crc16.ext l[k]) = Y

          refine C.cut (G := Unit) (fun _ => [(0, p), (3, u16 (Crc16.step Y)), (4, i64 k), (5, i64 m)]) (fun _ w' => w = w') ?_ ?_
          ·
            refine C.block <| C.seq <| C.region <| E.mv rfl rfl <| E.bin rfl rfl rfl rfl <| E.nil <| X.next <| ?_
            refine C.cond' rfl (fun hc => ?_) (fun hc => ?_)
            ·
              refine C.region <| E.mv rfl rfl <| ?_
              refine E.binw rfl rfl rfl (congrArg _ (mul2_16 _)) rfl ?_
              refine E.binw rfl rfl rfl (congrArg _ (step16A Y ((ge_iff Y).1 hc))) rfl <| E.asg rfl rfl <| E.nil <| X.outN <| X.join () (Sub.cons rfl <| Sub.cons rfl <| Sub.cons rfl <| Sub.cons rfl <| Sub.nil _) rfl
            ·
              refine C.region <| E.mv rfl rfl <| ?_
              refine E.binw rfl rfl rfl (congrArg _ (mul2_16 _)) rfl ?_
              refine E.asg rfl rfl <| E.nil <| X.outN <| X.join () (Sub.cons rfl <| Sub.cons (by rw [step16B Y (fun h => hc ((ge_iff Y).2 h))]; rfl) <| Sub.cons rfl <| Sub.cons rfl <| Sub.nil _) rfl
          ·
            rintro _ _ rfl
            refine C.region <| E.mv rfl rfl <| ?_
            refine E.add rfl rfl (by omega) rfl ?_
            refine E.asg rfl rfl <| E.nil <| X.again (m + 1) (Sub.cons rfl <| Sub.cons (by rw [Crc16.steps_succ, hX]; rfl) <| Sub.cons rfl <| Sub.cons rfl <| Sub.nil _) ⟨by omega, rfl⟩ (by omega)
        ·
          obtain rfl : m = 8 := by omega
          refine C.exit <| X.exitT <| X.exitT <| X.outE <| X.outN <| X.next <| C.region <| E.mv rfl rfl <| ?_
          refine E.add rfl rfl (by omega) rfl ?_
          refine E.asg rfl rfl <| E.nil <| X.again (k + 1) (Sub.cons rfl <| Sub.cons (by rw [reg16_take _ l k hk']; rfl) <| Sub.cons rfl <| Sub.nil _) ⟨by omega, rfl⟩ (by omega)
    ·
      obtain rfl : k = l.length := by omega
      refine C.exit <| X.exitT <| X.exitT <| X.outE <| X.next <| C.seq <| C.region <| E.mv rfl rfl <| E.asg rfl rfl <| E.nil <| X.next <| C.ret <| ret1 rfl rfl ?_
      exact ⟨by rw [List.take_length]; rfl, rfl⟩
end Go.Proofs.Ytmekdfkcjhgkdaa
