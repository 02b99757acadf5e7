/- What the functions of package checksum return. -/
import Derived.Test.YtdcgmkoonanpgaaProg
import Derived.Test.YtdcgmkoonanpgaaBase
import Derived.Test.YtdcgmkoonanpgaaCrcMath
import Derived.Test.YtdcgmkoonanpgaaSym3
namespace Go.Proofs.Ytdcgmkoonanpgaa
set_option linter.unusedSimpArgs false
set_option linter.unusedVariables false
open Go.RowKit Sym

abbrev u32 (x : BitVec 32) : Value := .int .u32 (x.toNat : Int)

theorem stepA (x : BitVec 32) (h : x.getLsbD 0 = true) : bits .xor .u32 ((x.toNat : Int) / 2) 3988292384 = ((Crc.step x).toNat : Int) := by
  have e : (x.toNat : Int) / (2 : Int) = ((x >>> 1).toNat : Int) := by rw [shr32]; rfl
  rw [e]
  have := bits_xor32 (x >>> 1) 0xedb88320#32
  unfold Crc.step; rw [if_pos h]; exact this
theorem stepB (x : BitVec 32) (h : ¬ x.getLsbD 0 = true) : (x.toNat : Int) / 2 = ((Crc.step x).toNat : Int) := by
  have e : (x.toNat : Int) / (2 : Int) = ((x >>> 1).toNat : Int) := by rw [shr32]; rfl
  rw [e]; unfold Crc.step; rw [if_neg h]
theorem lsb_iff (x : BitVec 32) : bits .and .u32 (x.toNat : Int) 1 = 1 ↔ x.getLsbD 0 = true := by
  rw [← lsb32]; simp

theorem step_ret (x : BitVec 32) (w : World) :
    Ret Try.prog 98 #[u32 x] w fun v w' => v = u32 (Crc.step x) ∧ w = w' := by
  refine enter Try.func98 rfl (by kernel_rfl) Try.ntmps98 rfl ?_
  refine C.seq <| C.region <| E.asg rfl rfl <| E.nil <| X.next <| C.seq <| C.seq <| C.region <| E.mv rfl rfl <| E.bin rfl rfl rfl rfl <| E.bin rfl rfl rfl rfl <| E.nil <| X.next <| ?_
  refine C.cond' rfl (fun hc => ?_) (fun hc => ?_)
  ·
    refine C.seq <| C.region <| E.mv rfl rfl <| ?_
    refine E.shr rfl rfl (by decide) (c := _ / 2) rfl rfl ?_
    refine E.bin rfl rfl rfl rfl <| E.asg rfl rfl <| E.nil <| X.next <| C.ret <| X.retT <| ret1 rfl rfl ?_
    exact ⟨congrArg _ (stepA x ((lsb_iff x).1 hc)), rfl⟩
  ·
    refine C.skip <| X.next <| C.seq <| C.region <| E.mv rfl rfl <| ?_
    refine E.shr rfl rfl (by decide) (c := _ / 2) rfl rfl ?_
    refine E.asg rfl rfl <| E.nil <| X.next <| C.ret <| ret1 rfl rfl ?_
    exact ⟨congrArg _ (stepB x (fun h => hc ((lsb_iff x).2 h))), rfl⟩

/-- the table after k entries -/
def tabL (k : Nat) : List Value := (List.range 256).map fun i => if i < k then u32 (Crc.steps 8 (BitVec.ofNat 32 i)) else .int .u32 0
theorem tabL_len (k : Nat) : (tabL k).length = 256 := by simp [tabL]
theorem tabL_get (k i : Nat) (h : i < 256) : (tabL k)[i]? = some (if i < k then u32 (Crc.steps 8 (BitVec.ofNat 32 i)) else .int .u32 0) := by simp [tabL, h]
theorem tabL_succ (k : Nat) (h : k < 256) : (tabL k).toArray.setIfInBounds k (u32 (Crc.steps 8 (BitVec.ofNat 32 k))) = (tabL (k + 1)).toArray := by
  rw [List.setIfInBounds_toArray]
  congr 1
  apply List.ext_getElem?
  intro i
  by_cases hi : i < 256
  · rw [List.getElem?_set, tabL_get _ _ hi, tabL_get _ _ hi, tabL_len]
    by_cases e : k = i
    · subst e; simp [h]
    · have : (i < k + 1) = (i < k) := by simp; omega
      simp [e, this]
  · rw [List.getElem?_eq_none (by simp [tabL_len]; omega), List.getElem?_eq_none (by rw [tabL_len]; omega)]
theorem tabL_one (k : Nat) : ∀ u ∈ tabL k, u.oneCell' = true := by
  intro u hu
  simp only [tabL, List.mem_map] at hu
  obtain ⟨i, _, rfl⟩ := hu
  split <;> rfl

theorem table32_ret (w : World) :
    Ret Try.prog 91 #[] w fun v w' => v = .agg (tabL 256).toArray ∧ Ext w w' := by
  refine enter Try.func91 rfl (by kernel_rfl) Try.ntmps91 rfl ?_
  refine C.seq <| C.region <| ?_
  refine E.alloc (z := .agg (tabL 0).toArray) (by kernel_rfl) rfl ?_
  refine E.nil <| X.next <| C.seq <| C.region <| ?_
  refine E.alloc (z := .agg (tabL 0).toArray) (by kernel_rfl) rfl ?_
  refine E.nil <| X.next <| C.seq <| C.seq <| C.region <| E.mv rfl rfl <| E.nil <| X.next <| C.block <| ?_
  have e1 : (w.alloc (.cells (Value.agg (tabL 0).toArray).cells 131)).heap.size = w.heap.size + 1 := World.size_alloc ..
  rw [e1]

  refine C.loop (G := Nat) (fun k => [(0, .pointer (some ⟨w.heap.size, 0, none⟩)), (1, .pointer (some ⟨w.heap.size + 1, 0, none⟩)), (4, i64 k)])
    (fun k w' => k ≤ 256 ∧ Blk w' w.heap.size 131 (tabL 0).toArray ∧ Blk w' (w.heap.size + 1) 131 (tabL k).toArray ∧ Ext w w') (fun k => 256 - k) 0 ?_ ?_ ?_
  · exact Sub.cons rfl <| Sub.cons rfl <| Sub.cons rfl <| Sub.nil _
  · exact ⟨by omega, (Blk.new w _ _).alloc _, by have := Blk.new (w.alloc (.cells (Value.agg (tabL 0).toArray).cells 131)) 131 (tabL 0).toArray; rw [e1] at this; exact this, (Ext.new _ _).alloc _⟩
  · rintro k wk ⟨hk, h0, h1, hx⟩
    refine C.seq <| C.region <| E.bin rfl rfl rfl rfl <| E.nil <| X.next <| C.seq <| ?_
    refine C.cond' rfl (fun hc => ?_) (fun hc => ?_)
    ·
      refine C.skip <| X.next <| C.seq <| C.block <| C.seq <| C.region <| E.mv rfl rfl <| E.asg rfl rfl <| E.nil <| X.next <| C.seq <| C.region <| E.mv rfl rfl <| ?_
      refine E.conv rfl Try.underlying3 Try.underlying58 (IntWalk.u32_in _ (by omega)) rfl ?_
      refine E.asg rfl rfl <| E.nil <| X.next <| C.seq <| C.seq <| C.region <| E.mv rfl rfl <| E.nil <| X.next <| C.block <| ?_

      refine C.loop (G := Nat) (fun m => [(0, .pointer (some ⟨w.heap.size, 0, none⟩)), (1, .pointer (some ⟨w.heap.size + 1, 0, none⟩)), (2, i64 k), (3, u32 (Crc.steps m (BitVec.ofNat 32 k))), (4, i64 k), (9, i64 m)]) (fun m w' => m ≤ 8 ∧ wk = w') (fun m => 8 - m) 0 ?_ ?_ ?_
      · exact Sub.cons rfl <| Sub.cons rfl <| Sub.cons rfl <| Sub.cons (congrArg (fun z => some (Value.int .u32 z)) (by simp [Crc.steps]; omega)) <| Sub.cons rfl <| Sub.cons rfl <| Sub.nil _
      · exact ⟨by omega, rfl⟩
      · rintro m _ ⟨hm, rfl⟩
        refine C.seq <| C.region <| E.bin rfl rfl rfl rfl <| E.nil <| X.next <| C.seq <| ?_
        refine C.cond' rfl (fun hc => ?_) (fun hc => ?_)
        ·
          refine C.skip <| X.next <| C.seq <| C.block <| C.region <| E.mv rfl rfl <| ?_
          refine E.call rfl rfl (step_ret _ _) ?_
          rintro _ _ ⟨rfl, rfl⟩
          refine E.asg rfl rfl <| E.nil <| X.outN <| X.next <| C.region <| ?_
          refine E.add rfl rfl (by omega) rfl ?_
          refine E.mv rfl rfl <| E.nil <| X.again (m + 1) (Sub.cons rfl <| Sub.cons rfl <| Sub.cons rfl <| Sub.cons (by rw [Crc.steps_succ]; rfl) <| Sub.cons rfl <| Sub.cons rfl <| Sub.nil _) ⟨by omega, rfl⟩ (by omega)
        ·
          obtain rfl : m = 8 := by omega
          have hk' : k < 256 := by omega
          refine C.exit <| X.exitT <| X.exitT <| X.outE <| X.next <| C.region <| E.mv rfl rfl <| E.mv rfl rfl <| ?_
          refine E.idxA (sz := 1) rfl rfl Try.underlying131 (by kernel_rfl) (by omega) (by omega) rfl ?_
          have ea : 0 + (k : Int).toNat * 1 = k := by omega
          rw [ea]
          refine E.store rfl rfl (by kernel_rfl) rfl (by rw [h1.cell, List.getElem?_toArray]; exact tabL_get k k hk') (h1.frozen _) ?_
          refine E.nil <| X.outN <| X.next <| C.region <| ?_
          refine E.add rfl rfl (by omega) rfl ?_
          refine E.mv rfl rfl <| E.nil <| X.again (k + 1) (Sub.cons rfl <| Sub.cons rfl <| Sub.cons rfl <| Sub.nil _) ⟨by omega, h0.setOther (by simp) _, by rw [← tabL_succ k hk']; exact h1.set k _, hx.setCell (by simp) _⟩ (by omega)
    ·
      obtain rfl : k = 256 := by omega
      refine C.exit <| X.exitT <| X.exitT <| X.outE <| X.next <| C.seq <| C.region <| ?_
      refine E.loadA (cs := tabL 256) rfl Try.underlying131 rfl (by rw [tabL_len]; kernel_rfl) (h1.at 0 _ fun j u hu => by rw [Nat.zero_add, List.getElem?_toArray]; exact hu) rfl ?_
      refine E.storeA (cs := tabL 256) rfl rfl (by rw [tabL_len]; kernel_rfl) h0 (by simp [tabL_len]) (tabL_one 256) ?_
      rw [splice_all _ _ (by simp [tabL_len])]
      refine E.nil <| X.next <| C.ret <| retA rfl rfl Try.underlying131 rfl (h0.setRow _) (by rw [tabL_len]; kernel_rfl) ?_
      exact ⟨rfl, hx.setRow (Nat.le_refl _) _⟩

/-! the CRC-32 of bytes -/
def tix (x : BitVec 32) (c : UInt8) : Nat := x.toNat % 256 ^^^ c.toNat
theorem u8_lt (c : UInt8) : c.toNat < 256 := c.toNat_lt
theorem tix_lt (x : BitVec 32) (c : UInt8) : tix x c < 256 := Nat.xor_lt_two_pow (n := 8) (Nat.mod_lt _ (by decide)) (u8_lt c)
theorem tix_eq (x : BitVec 32) (c : UInt8) : bits .xor .u8 ((x.toNat : Int) % 256) (c.toNat : Int) = ((tix x c : Nat) : Int) := by
  have h : (x.toNat : Int) % 256 = ((x.toNat % 256 : Nat) : Int) := by simp
  rw [h, u8_xor_nat _ _ (Nat.mod_lt _ (by decide)) (u8_lt c)]; rfl
theorem ext_toNat (c : UInt8) : (Crc.ext c).toNat = c.toNat := by
  simp [Crc.ext]
theorem shr8_ext (x : BitVec 32) (c : UInt8) : (x ^^^ Crc.ext c) >>> 8 = x >>> 8 := by
  rw [BitVec.ushiftRight_xor_distrib]
  have : Crc.ext c >>> 8 = 0#32 := by
    apply BitVec.eq_of_toNat_eq
    have := u8_lt c
    rw [BitVec.toNat_ushiftRight, ext_toNat, Nat.shiftRight_eq_div_pow]; simp; omega
  rw [this]; simp
theorem low8_ext (x : BitVec 32) (c : UInt8) : (x ^^^ Crc.ext c) &&& 0xff#32 = BitVec.ofNat 32 (tix x c) := by
  apply BitVec.eq_of_toNat_eq
  have h1 := tix_lt x c
  have h2 := u8_lt c
  have hr : (BitVec.ofNat 32 (tix x c)).toNat = tix x c := by rw [BitVec.toNat_ofNat]; exact Nat.mod_eq_of_lt (Nat.lt_trans h1 (by decide))
  have : (0xff#32).toNat = 2 ^ 8 - 1 := by decide
  rw [BitVec.toNat_and, BitVec.toNat_xor, ext_toNat, hr, this, Nat.and_two_pow_sub_one_eq_mod, tix]
  have hm : ∀ a b : Nat, b < 256 → (a ^^^ b) % 2 ^ 8 = a % 256 ^^^ b := by
    intro a b hb
    rw [Nat.xor_mod_two_pow, Nat.mod_eq_of_lt (a := b) (by simpa using hb)]
  exact hm _ _ h2
theorem upd_eq (x : BitVec 32) (c : UInt8) : bits .xor .u32 ((x.toNat : Int) / 256) ((Crc.steps 8 (BitVec.ofNat 32 (tix x c))).toNat : Int) = ((Crc.steps 8 (x ^^^ Crc.ext c)).toNat : Int) := by
  have e : (x.toNat : Int) / (256 : Int) = ((x >>> 8).toNat : Int) := by rw [shr32]; rfl
  rw [e, bits_xor32, Crc.steps8_split (x ^^^ Crc.ext c), shr8_ext, low8_ext]
theorem reg_take (x : BitVec 32) (l : List UInt8) (k : Nat) (h : k < l.length) : Crc.reg x (l.take (k + 1)) = Crc.steps 8 (Crc.reg x (l.take k) ^^^ Crc.ext l[k]) := by
  rw [List.take_succ_eq_append_getElem h, Crc.reg_snoc]

theorem update_ret (x : BitVec 32) (p : Value) (l : List UInt8) (w : World) (hp : RdL u8 w p l) :
    Ret Try.prog 82 #[u32 x, p] w fun v w' => v = u32 (Crc.reg x l) ∧ Ext w w' := by
  have hle : l.length ≤ 9223372036854775807 := Rd.le hp
  refine enter Try.func82 rfl (by kernel_rfl) Try.ntmps82 rfl ?_
  refine C.seq <| C.region <| E.asg rfl rfl <| E.nil <| X.next <| C.seq <| C.region <| ?_
  refine E.call rfl rfl (table32_ret _) ?_
  rintro _ w1 ⟨rfl, hx1⟩
  refine E.alloc (z := .agg (tabL 0).toArray) (by kernel_rfl) rfl ?_
  refine E.storeA (cs := tabL 256) rfl rfl (by rw [tabL_len]; kernel_rfl) (Blk.new w1 131 (tabL 0).toArray) (by simp [tabL_len]) (tabL_one 256) ?_
  rw [splice_all _ _ (by simp [tabL_len]), show (Value.agg (tabL 0).toArray).cells = (tabL 0).toArray from rfl, setRow_alloc]
  have hb2 := Blk.new w1 131 (tabL 256).toArray
  have hx2 := hx1.alloc (.cells (tabL 256).toArray 131)
  revert hb2 hx2
  generalize w1.alloc (.cells (tabL 256).toArray 131) = w2
  generalize w1.heap.size = B
  intro hb2 hx2
  have hp2 : RdL u8 w2 p l := hp.ext hx2
  refine E.nil <| X.next <| C.seq <| C.seq <| C.region <| E.mv rfl rfl <| ?_
  refine E.len rfl hp2 Try.underlying22 rfl ?_
  refine E.mv rfl rfl <| E.nil <| X.next <| C.block <| ?_

  refine C.loop (G := Nat) (fun k => [(0, u32 (Crc.reg x (l.take k))), (5, .pointer (some ⟨B, 0, none⟩)), (9, p), (10, i64 l.length), (11, i64 k)]) (fun k w' => k ≤ l.length ∧ w2 = w') (fun k => l.length - k) 0 ?_ ?_ ?_
  · exact Sub.cons rfl <| Sub.cons rfl <| Sub.cons rfl <| Sub.cons rfl <| Sub.cons rfl <| Sub.nil _
  · exact ⟨by omega, rfl⟩
  · rintro k _ ⟨hk, rfl⟩
    refine C.seq <| C.region <| E.bin rfl rfl rfl rfl <| E.nil <| X.next <| C.seq <| ?_
    refine C.cond' rfl (fun hc => ?_) (fun hc => ?_)
    ·
      have hk' : k < l.length := by omega
      have ht := tix_lt (Crc.reg x (l.take k)) l[k]
      refine C.skip <| X.next <| C.seq <| C.block <| C.seq <| C.region <| ?_
      refine E.idx (sz := 1) rfl rfl hp2 Try.underlying22 (by kernel_rfl) (by omega) (by omega) (by decide) rfl ?_
      rw [show (k : Int).toNat * 1 = k from by omega]
      refine E.load rfl Try.underlying5 rfl (hp2.cell hk') rfl ?_
      refine E.asg rfl rfl <| E.nil <| X.next <| C.region <| E.mv rfl rfl <| ?_
      refine E.shr rfl rfl (by decide) (c := _ / 256) rfl rfl ?_
      refine E.mv rfl rfl <| ?_
      refine E.conv rfl Try.underlying58 Try.underlying5 (IntKind.wrap_u8' _) rfl ?_
      refine E.mv rfl rfl <| E.binw rfl rfl rfl (congrArg _ (tix_eq _ _)) rfl <| ?_
      refine E.idxA (sz := 1) rfl rfl Try.underlying131 (by kernel_rfl) (by omega) (by omega) rfl ?_
      rw [show 0 + ((tix (Crc.reg x (l.take k)) l[k] : Nat) : Int).toNat * 1 = tix (Crc.reg x (l.take k)) l[k] from by omega]
      refine E.load rfl Try.underlying58 rfl (by rw [hb2.cell, List.getElem?_toArray, tabL_get _ _ ht, if_pos ht]) rfl ?_
      refine E.binw rfl rfl rfl (congrArg _ (upd_eq _ _)) rfl <| E.asg rfl rfl <| E.nil <| X.outN <| X.next <| C.region <| ?_
      refine E.add rfl rfl (by omega) rfl ?_
      refine E.mv rfl rfl <| E.nil <| X.again (k + 1) (Sub.cons (by rw [reg_take x l k hk']; rfl) <| Sub.cons rfl <| Sub.cons rfl <| Sub.cons rfl <| Sub.cons rfl <| Sub.nil _) ⟨by omega, rfl⟩ (by omega)
    ·
      obtain rfl : k = l.length := by omega
      refine C.exit <| X.exitT <| X.exitT <| X.outE <| X.next <| C.seq <| C.region <| E.mv rfl rfl <| E.asg rfl rfl <| E.nil <| X.next <| C.ret <| ret1 rfl rfl ?_
      exact ⟨by rw [List.take_length], hx2⟩

theorem flip32 (x : BitVec 32) : bits .xor .u32 (if IntKind.u32.signed then -1 else IntKind.u32.max) (x.toNat : Int) = ((~~~ x).toNat : Int) := by
  have h : (if IntKind.u32.signed then -1 else IntKind.u32.max : Int) = ((0xffffffff#32).toNat : Int) := by decide
  rw [h, bits_xor32]
  have : 0xffffffff#32 ^^^ x = ~~~ x := by
    apply BitVec.eq_of_getLsbD_eq; intro i hi
    have : ∀ i, i < 32 → (0xffffffff#32).getLsbD i = true := by decide
    rw [BitVec.getLsbD_xor, this i hi, BitVec.getLsbD_not]; simp [hi]
  rw [this]

theorem CRC32_ret (p : Value) (l : List UInt8) (w : World) (hp : RdL u8 w p l) :
    Ret Try.prog 75 #[p] w fun v w' => v = u32 (Crc.crc l) ∧ Ext w w' := by
  refine enter Try.func75 rfl (by kernel_rfl) Try.ntmps75 rfl ?_
  refine C.seq <| C.region <| E.asg rfl rfl <| E.nil <| X.next <| C.seq <| C.region <| E.mv rfl rfl <| ?_
  refine E.call rfl rfl (update_ret 0xffffffff#32 p l w hp) ?_
  rintro _ w1 ⟨rfl, hx1⟩
  refine E.flip rfl (flip32 _) rfl ?_
  refine E.asg rfl rfl <| E.nil <| X.next <| C.ret <| ret1 rfl rfl ?_
  exact ⟨rfl, hx1⟩

theorem odd_iff (x : BitVec 32) : (x.toNat : Int) % 2 = 1 ↔ x.getLsbD 0 = true := by
  have : x.getLsbD 0 = decide (x.toNat % 2 = 1) := by simp [BitVec.getLsbD, Nat.testBit_zero]
  rw [this]; simp; omega
theorem quo2 (x : BitVec 32) : IntKind.u32.wrap ((x.toNat : Int).tdiv 2) = (x.toNat : Int) / 2 := IntWalk.u32_quo _ _ (by have := lt32 x; omega)

theorem rstep_ret (x : BitVec 32) (w : World) :
    Ret Try.prog 76 #[u32 x] w fun v w' => v = u32 (Crc.step x) ∧ w = w' := by
  refine enter Try.func76 rfl (by kernel_rfl) Try.ntmps76 rfl ?_
  refine C.seq <| C.region <| E.asg rfl rfl <| E.nil <| X.next <| C.seq <| C.seq <| C.region <| E.mv rfl rfl <| ?_
  refine E.rem rfl rfl (by omega) (IntWalk.rem_in _ _ (by omega)) rfl ?_
  refine E.bin rfl rfl rfl rfl <| E.nil <| X.next <| ?_
  refine C.cond' rfl (fun hc => ?_) (fun hc => ?_)
  ·
    refine C.seq <| C.region <| E.mv rfl rfl <| ?_
    refine E.quo rfl rfl (by omega) (quo2 x) rfl ?_
    refine E.bin rfl rfl rfl rfl <| E.asg rfl rfl <| E.nil <| X.next <| C.ret <| X.retT <| ret1 rfl rfl ?_
    exact ⟨congrArg _ (stepA x ((odd_iff x).1 hc)), rfl⟩
  ·
    refine C.skip <| X.next <| C.seq <| C.region <| E.mv rfl rfl <| ?_
    refine E.quo rfl rfl (by omega) (quo2 x) rfl ?_
    refine E.asg rfl rfl <| E.nil <| X.next <| C.ret <| ret1 rfl rfl ?_
    exact ⟨congrArg _ (stepB x (fun h => hc ((odd_iff x).2 h))), rfl⟩
end Go.Proofs.Ytdcgmkoonanpgaa
