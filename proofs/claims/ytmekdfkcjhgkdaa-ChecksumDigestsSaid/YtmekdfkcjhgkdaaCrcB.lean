/- What the reference's CRC-32, the products of polynomials and the combination of two checksums return. -/
import Derived.Test.YtmekdfkcjhgkdaaCrc
namespace Go.Proofs.Ytmekdfkcjhgkdaa
open Go.RowKit Sym

theorem xor_ext (x : BitVec 32) (c : UInt8) : bits .xor .u32 (x.toNat : Int) (c.toNat : Int) = ((x ^^^ Crc.ext c).toNat : Int) := by
  rw [← bits_xor32, ext_toNat]
theorem xor_ones (x : BitVec 32) : bits .xor .u32 (x.toNat : Int) 4294967295 = ((~~~ x).toNat : Int) := by
  have h := bits_xor32 x 0xffffffff#32
  have e : x ^^^ 0xffffffff#32 = ~~~ x := by
    apply BitVec.eq_of_getLsbD_eq; intro i hi
    have : ∀ i, i < 32 → (0xffffffff#32).getLsbD i = true := by decide
    rw [BitVec.getLsbD_xor, this i hi, BitVec.getLsbD_not]; simp [hi]
  rw [e] at h; exact h

theorem rCRC32_ret (p : Value) (l : List UInt8) (w : World) (hp : RdL u8 w p l) :
    Ret Try.prog 15 #[p] w fun v w' => v = u32 (Crc.crc l) ∧ w = w' := by
  have hle : l.length ≤ 9223372036854775807 := Rd.le hp
  refine enter Try.func15 rfl (by kernel_rfl) Try.ntmps15 rfl ?_
  refine C.seq <| C.region <| E.asg rfl rfl <| E.nil <| X.next <| C.seq <| C.region <| E.asg rfl rfl <| E.nil <| X.next <| C.seq <| C.seq <| C.region <| E.asg rfl rfl <| E.nil <| X.next <| C.block <| ?_

  refine C.loop (G := Nat) (fun k => [(0, p), (3, u32 (Crc.reg 0xffffffff#32 (l.take k))), (4, i64 k)]) (fun k w' => k ≤ l.length ∧ w = w') (fun k => l.length - k) 0 ?_ ?_ ?_
  · exact Sub.cons rfl <| Sub.cons rfl <| Sub.cons rfl <| Sub.nil _
  · exact ⟨by omega, rfl⟩
  · rintro k _ ⟨hk, rfl⟩
    refine C.seq <| C.seq <| C.region <| E.mv rfl rfl <| E.mv rfl rfl <| ?_
    refine E.len rfl hp Try.underlying22 rfl ?_
    refine E.bin rfl rfl rfl rfl <| E.nil <| X.next <| ?_
    refine C.cond' rfl (fun hc => ?_) (fun hc => ?_)
    ·
      have hk' : k < l.length := by omega
      have hb := u8_lt l[k]
      refine C.skip <| X.next <| C.seq <| C.block <| C.seq <| C.region <| E.mv rfl rfl <| E.mv rfl rfl <| E.mv rfl rfl <| ?_
      refine E.get (k := k) rfl rfl hp rfl hk' Try.underlying22 (by kernel_rfl) Try.underlying5 rfl rfl rfl ?_
      refine E.conv rfl Try.underlying5 Try.underlying23 (IntWalk.u32_in _ (by omega)) rfl ?_
      refine E.binw rfl rfl rfl (congrArg _ (xor_ext _ _)) rfl <| E.asg rfl rfl <| E.nil <| X.next <| C.seq <| C.region <| E.asg rfl rfl <| E.nil <| X.next <| C.block <| ?_

      refine C.loop (G := Nat) (fun m => [(0, p), (3, u32 (Crc.steps m (Crc.reg 0xffffffff#32 (l.take k) ^^^ Crc.ext l[k]))), (4, i64 k), (5, i64 m)]) (fun m w' => m ≤ 8 ∧ w = w') (fun m => 8 - m) 0 ?_ ?_ ?_
      · exact Sub.cons rfl <| Sub.cons rfl <| Sub.cons rfl <| Sub.cons rfl <| Sub.nil _
      · exact ⟨by omega, rfl⟩
      · rintro m _ ⟨hm, rfl⟩
        refine C.seq <| C.seq <| C.region <| E.mv rfl rfl <| E.bin rfl rfl rfl rfl <| E.nil <| X.next <| ?_
        refine C.cond' rfl (fun hc => ?_) (fun hc => ?_)
        ·
          refine C.skip <| X.next <| C.seq <| C.block <| C.region <| E.mv rfl rfl <| ?_
          refine E.call rfl rfl (rstep_ret _ _) ?_
          rintro _ _ ⟨rfl, rfl⟩
          refine E.asg rfl rfl <| E.nil <| X.outN <| X.next <| C.region <| E.mv rfl rfl <| ?_
          refine E.add rfl rfl (by omega) rfl ?_
          refine E.asg rfl rfl <| E.nil <| X.again (m + 1) (Sub.cons rfl <| Sub.cons (by rw [Crc.steps_succ]; rfl) <| Sub.cons rfl <| Sub.cons rfl <| Sub.nil _) ⟨by omega, rfl⟩ (by omega)
        ·
          obtain rfl : m = 8 := by omega
          refine C.exit <| X.exitT <| X.exitT <| X.outE <| X.outN <| X.next <| C.region <| E.mv rfl rfl <| ?_
          refine E.add rfl rfl (by omega) rfl ?_
          refine E.asg rfl rfl <| E.nil <| X.again (k + 1) (Sub.cons rfl <| Sub.cons (by rw [reg_take _ l k hk']; rfl) <| Sub.cons rfl <| Sub.nil _) ⟨by omega, rfl⟩ (by omega)
    ·
      obtain rfl : k = l.length := by omega
      refine C.exit <| X.exitT <| X.exitT <| X.outE <| X.next <| C.seq <| C.region <| E.mv rfl rfl <| E.binw rfl rfl rfl (congrArg _ (xor_ones _)) rfl <| E.asg rfl rfl <| E.nil <| X.next <| C.ret <| ret1 rfl rfl ?_
      exact ⟨by rw [List.take_length]; rfl, rfl⟩

theorem bit_iff (p : BitVec 32) (k : Nat) (h : k < 32) : bits .and .u32 ((p.toNat : Int) / 2 ^ min ((31 : Int) - (k : Int)).toNat IntKind.u32.bits) 1 = 1 ↔ p.getLsbD (31 - k) = true := by
  have e : min ((31 : Int) - (k : Int)).toNat IntKind.u32.bits = 31 - k := by simp [IntKind.bits]; omega
  rw [e, ← shr32, lsb_iff, BitVec.getLsbD_ushiftRight]; simp
theorem part_t (p q : BitVec 32) (k : Nat) (h : p.getLsbD (31 - k) = true) : bits .xor .u32 ((Crc.part p q k).toNat : Int) ((Crc.steps k q).toNat : Int) = ((Crc.part p q (k + 1)).toNat : Int) := by
  rw [bits_xor32, Crc.part, if_pos h]
theorem part_f (p q : BitVec 32) (k : Nat) (h : ¬ p.getLsbD (31 - k) = true) : Crc.part p q (k + 1) = Crc.part p q k := by
  rw [Crc.part, if_neg h]; simp

theorem multiply_ret (p q : BitVec 32) (w : World) :
    Ret Try.prog 33 #[u32 p, u32 q] w fun v w' => v = u32 (Crc.mul p q) ∧ w = w' := by
  refine enter Try.func33 rfl (by kernel_rfl) Try.ntmps33 rfl ?_
  refine C.seq <| C.region <| E.asg rfl rfl <| E.nil <| X.next <| C.seq <| C.region <| E.asg rfl rfl <| E.nil <| X.next <| C.seq <| C.seq <| C.region <| E.mv rfl rfl <| E.nil <| X.next <| C.block <| ?_

  refine C.loop (G := Nat) (fun k => [(0, u32 p), (1, u32 (Crc.steps k q)), (5, u32 (Crc.part p q k)), (7, i64 k)]) (fun k w' => k ≤ 32 ∧ w = w') (fun k => 32 - k) 0 ?_ ?_ ?_
  · exact Sub.cons rfl <| Sub.cons rfl <| Sub.cons rfl <| Sub.cons rfl <| Sub.nil _
  · exact ⟨by omega, rfl⟩
  · rintro k _ ⟨hk, rfl⟩
    refine C.seq <| C.region <| E.bin rfl rfl rfl rfl <| E.nil <| X.next <| C.seq <| ?_
    refine C.cond' rfl (fun hc => ?_) (fun hc => ?_)
    ·
      have hk' : k < 32 := by omega
      refine C.skip <| X.next <| C.seq <| C.block <| C.seq <| C.region <| E.mv rfl rfl <| E.asg rfl rfl <| E.nil <| X.next <| ?_

      refine C.cut (G := Unit) (fun _ => [(0, u32 p), (1, u32 (Crc.steps k q)), (5, u32 (Crc.part p q (k + 1))), (7, i64 k)]) (fun _ w' => w = w') ?_ ?_
      ·
        refine C.seq <| C.region <| E.mv rfl rfl <| E.mv rfl rfl <| ?_
        refine E.sub' rfl rfl (by omega) rfl ?_
        refine E.shr rfl rfl (by omega) rfl rfl ?_
        refine E.bin rfl rfl rfl rfl <| E.bin rfl rfl rfl rfl <| E.nil <| X.next <| ?_
        refine C.cond' rfl (fun hc => ?_) (fun hc => ?_)
        ·
          refine C.region <| E.mv rfl rfl <| E.mv rfl rfl <| E.binw rfl rfl rfl (congrArg _ (part_t p q k ((bit_iff p k hk').1 hc))) rfl <| E.asg rfl rfl <| E.nil <| X.join () (Sub.cons rfl <| Sub.cons rfl <| Sub.cons rfl <| Sub.cons rfl <| Sub.nil _) rfl
        ·
          refine C.skip <| X.join () (Sub.cons rfl <| Sub.cons rfl <| Sub.cons (by rw [part_f p q k (fun h => hc ((bit_iff p k hk').2 h))]; rfl) <| Sub.cons rfl <| Sub.nil _) rfl
      ·
        rintro _ _ rfl
        refine C.region <| E.mv rfl rfl <| ?_
        refine E.call rfl rfl (step_ret _ _) ?_
        rintro _ _ ⟨rfl, rfl⟩
        refine E.asg rfl rfl <| E.nil <| X.outN <| X.next <| C.region <| ?_
        refine E.add rfl rfl (by omega) rfl ?_
        refine E.mv rfl rfl <| E.nil <| X.again (k + 1) (Sub.cons rfl <| Sub.cons (by rw [Crc.steps_succ]; rfl) <| Sub.cons rfl <| Sub.cons rfl <| Sub.nil _) ⟨by omega, rfl⟩ (by omega)
    ·
      obtain rfl : k = 32 := by omega
      refine C.exit <| X.exitT <| X.exitT <| X.outE <| X.next <| C.seq <| C.region <| E.mv rfl rfl <| E.asg rfl rfl <| E.nil <| X.next <| C.ret <| ret1 rfl rfl ?_
      exact ⟨rfl, rfl⟩

theorem shl_toNat (p : BitVec 32) (k : Nat) : IntKind.u32.wrap (((p <<< k).toNat : Int) * 2) = ((p <<< (k + 1)).toNat : Int) := by
  rw [IntKind.wrap_u32']
  have h : ((p <<< (k + 1)).toNat : Nat) = (p <<< k).toNat * 2 % 4294967296 := by
    rw [BitVec.toNat_shiftLeft, BitVec.toNat_shiftLeft, Nat.shiftLeft_eq, Nat.shiftLeft_eq, Nat.pow_succ, ← Nat.mul_assoc]
    omega
  rw [h]; generalize (p <<< k).toNat = z; omega
theorem top_iff (p : BitVec 32) (k : Nat) (h : k < 32) : (2147483648 : Int) ≤ ((p <<< k).toNat : Int) ↔ p.getLsbD (31 - k) = true := by
  have e : (p <<< k).getLsbD 31 = p.getLsbD (31 - k) := by
    rw [BitVec.getLsbD_shiftLeft]
    have : ¬ 31 < k := by omega
    simp [this]
  rw [← e]
  have := (p <<< k).isLt
  have hm : (p <<< k).getLsbD 31 = decide (2 ^ 31 ≤ (p <<< k).toNat) := by
    have := BitVec.msb_eq_decide (p <<< k)
    rw [BitVec.msb_eq_getLsbD_last] at this
    simpa using this
  rw [hm, decide_eq_true_eq]; generalize (p <<< k).toNat = z; omega

theorem times_ret (p q : BitVec 32) (w : World) :
    Ret Try.prog 37 #[u32 p, u32 q] w fun v w' => v = u32 (Crc.mul p q) ∧ w = w' := by
  refine enter Try.func37 rfl (by kernel_rfl) Try.ntmps37 rfl ?_
  refine C.seq <| C.region <| E.asg rfl rfl <| E.nil <| X.next <| C.seq <| C.region <| E.asg rfl rfl <| E.nil <| X.next <| C.seq <| C.seq <| C.region <| E.asg rfl rfl <| E.nil <| X.next <| C.block <| ?_

  refine C.loop (G := Nat) (fun k => [(0, u32 (p <<< k)), (1, u32 (Crc.steps k q)), (5, u32 (Crc.part p q k)), (6, i64 k)]) (fun k w' => k ≤ 32 ∧ w = w') (fun k => 32 - k) 0 ?_ ?_ ?_
  · exact Sub.cons (by rw [BitVec.shiftLeft_zero]; rfl) <| Sub.cons rfl <| Sub.cons rfl <| Sub.cons rfl <| Sub.nil _
  · exact ⟨by omega, rfl⟩
  · rintro k _ ⟨hk, rfl⟩
    refine C.seq <| C.seq <| C.region <| E.mv rfl rfl <| E.bin rfl rfl rfl rfl <| E.nil <| X.next <| ?_
    refine C.cond' rfl (fun hc => ?_) (fun hc => ?_)
    ·
      have hk' : k < 32 := by omega
      refine C.skip <| X.next <| C.seq <| C.block <| ?_

      refine C.cut (G := Unit) (fun _ => [(0, u32 (p <<< k)), (1, u32 (Crc.steps k q)), (5, u32 (Crc.part p q (k + 1))), (6, i64 k)]) (fun _ w' => w = w') ?_ ?_
      ·
        refine C.seq <| C.region <| E.mv rfl rfl <| E.bin rfl rfl rfl rfl <| E.nil <| X.next <| ?_
        refine C.cond' rfl (fun hc => ?_) (fun hc => ?_)
        ·
          refine C.region <| E.mv rfl rfl <| E.mv rfl rfl <| E.binw rfl rfl rfl (congrArg _ (part_t p q k ((top_iff p k hk').1 hc))) rfl <| E.asg rfl rfl <| E.nil <| X.join () (Sub.cons rfl <| Sub.cons rfl <| Sub.cons rfl <| Sub.cons rfl <| Sub.nil _) rfl
        ·
          refine C.skip <| X.join () (Sub.cons rfl <| Sub.cons rfl <| Sub.cons (by rw [part_f p q k (fun h => hc ((top_iff p k hk').2 h))]; rfl) <| Sub.cons rfl <| Sub.nil _) rfl
      ·
        rintro _ _ rfl
        refine C.seq <| C.region <| E.mv rfl rfl <| ?_
        refine E.binw rfl rfl rfl (congrArg _ (shl_toNat p k)) rfl ?_
        refine E.asg rfl rfl <| E.nil <| X.next <| C.region <| E.mv rfl rfl <| ?_
        refine E.call rfl rfl (rstep_ret _ _) ?_
        rintro _ _ ⟨rfl, rfl⟩
        refine E.asg rfl rfl <| E.nil <| X.outN <| X.next <| C.region <| E.mv rfl rfl <| ?_
        refine E.add rfl rfl (by omega) rfl ?_
        refine E.asg rfl rfl <| E.nil <| X.again (k + 1) (Sub.cons rfl <| Sub.cons (by rw [Crc.steps_succ]; rfl) <| Sub.cons rfl <| Sub.cons rfl <| Sub.nil _) ⟨by omega, rfl⟩ (by omega)
    ·
      obtain rfl : k = 32 := by omega
      refine C.exit <| X.exitT <| X.exitT <| X.outE <| X.next <| C.seq <| C.region <| E.mv rfl rfl <| E.asg rfl rfl <| E.nil <| X.next <| C.ret <| ret1 rfl rfl ?_
      exact ⟨rfl, rfl⟩

/-- what Combine returns -/
def combV (a b : BitVec 32) (n : Int) : Value := if n < 0 then .tuple #[.int .u32 0, i64 3] else .tuple #[u32 (Crc.steps (8 * n.toNat) a ^^^ b), i64 0]
theorem comb_step (a : BitVec 32) (x e : Nat) : Crc.mul (Crc.steps (8 * x) a) (Crc.steps (8 * e) Crc.one) = Crc.steps (8 * (x + e)) a := by
  rw [Crc.mul_steps, ← Crc.steps_add]; congr 1; omega
theorem pow_step (e : Nat) : Crc.mul (Crc.steps (8 * e) Crc.one) (Crc.steps (8 * e) Crc.one) = Crc.steps (8 * (2 * e)) Crc.one := by
  rw [Crc.mul_steps, ← Crc.steps_add]; congr 1; omega
theorem half_odd (m e : Nat) (h : m % 2 = 1) (x : Nat) : x + e + m / 2 * (2 * e) = x + m * e := by
  obtain ⟨q, rfl⟩ : ∃ q, m = 2 * q + 1 := ⟨m / 2, by omega⟩
  rw [show (2 * q + 1) / 2 = q from by omega, Nat.add_mul, ← Nat.mul_assoc, Nat.mul_comm q 2]; omega
theorem half_even (m e : Nat) (h : m % 2 = 0) (x : Nat) : x + m / 2 * (2 * e) = x + m * e := by
  obtain ⟨q, rfl⟩ : ∃ q, m = 2 * q := ⟨m / 2, by omega⟩
  rw [show (2 * q) / 2 = q from by omega, ← Nat.mul_assoc, Nat.mul_comm q 2]
theorem and1 (m : Nat) (h : m ≤ 9223372036854775807) : bits .and .i64 (m : Int) 1 = ((m % 2 : Nat) : Int) := by
  have h1 := i64_and_nat m 1 (by omega) (by omega)
  rw [Nat.and_one_is_mod] at h1
  exact h1

theorem Combine_ret (a b : BitVec 32) (n : Int) (w : World) (hn : n ≤ 9223372036854775807) :
    Ret Try.prog 21 #[u32 a, u32 b, i64 n] w fun v w' => v = combV a b n ∧ w = w' := by
  refine enter Try.func21 rfl (by kernel_rfl) Try.ntmps21 rfl ?_
  refine C.seq <| C.region <| E.asg rfl rfl <| E.asg rfl rfl <| E.nil <| X.next <| C.seq <| C.seq <| C.region <| E.mv rfl rfl <| E.bin rfl rfl rfl rfl <| E.nil <| X.next <| ?_
  refine C.cond' rfl (fun hc => ?_) (fun hc => ?_)
  ·
    refine C.seq <| C.region <| E.asg rfl rfl <| E.asg rfl rfl <| E.nil <| X.next <| C.ret <| X.retT <| ret2 rfl rfl rfl ?_
    exact ⟨by rw [combV, if_pos hc], rfl⟩
  ·
    refine C.skip <| X.next <| C.seq <| C.region <| E.asg rfl rfl <| E.nil <| X.next <| C.seq <| C.block <| ?_
    obtain ⟨m0, rfl⟩ : ∃ m : Nat, n = m := ⟨n.toNat, by omega⟩

    refine C.loop (G := Nat × Nat × Nat) (fun g => [(0, u32 (Crc.steps (8 * g.2.1) a)), (1, u32 b), (2, i64 (g.1 : Nat)), (8, u32 (Crc.steps (8 * g.2.2) Crc.one))]) (fun g w' => g.1 ≤ m0 ∧ g.2.1 + g.1 * g.2.2 = m0 ∧ w = w') (fun g => g.1) (m0, 0, 1) ?_ ?_ ?_
    · exact Sub.cons rfl <| Sub.cons rfl <| Sub.cons rfl <| Sub.cons rfl <| Sub.nil _
    · exact ⟨Nat.le_refl _, by simp, rfl⟩
    · rintro ⟨m, x, e⟩ _ ⟨hm, he, rfl⟩
      simp only at hm he
      refine C.seq <| C.seq <| C.region <| E.mv rfl rfl <| E.bin rfl rfl rfl rfl <| E.nil <| X.next <| ?_
      refine C.cond' rfl (fun hc => ?_) (fun hc => ?_)
      ·
        refine C.skip <| X.next <| C.seq <| C.block <| ?_
        have hm0 : 0 < m := by omega

        refine C.cut (G := Unit) (fun _ => [(0, u32 (Crc.steps (8 * (x + m % 2 * e)) a)), (1, u32 b), (2, i64 (m : Nat)), (8, u32 (Crc.steps (8 * e) Crc.one))]) (fun _ w' => w = w') ?_ ?_
        ·
          refine C.seq <| C.region <| E.mv rfl rfl <| E.binw rfl rfl rfl (congrArg _ (and1 m (by omega))) rfl <| E.bin rfl rfl rfl rfl <| E.nil <| X.next <| ?_
          refine C.cond' rfl (fun hc => ?_) (fun hc => ?_)
          ·
            refine C.region <| E.mv rfl rfl <| E.mv rfl rfl <| ?_
            refine E.call rfl rfl (multiply_ret _ _ _) ?_
            rintro _ _ ⟨rfl, rfl⟩
            refine E.asg rfl rfl <| E.nil <| X.join () (Sub.cons (by rw [show m % 2 = 1 from by omega, Nat.one_mul, ← comb_step]; rfl) <| Sub.cons rfl <| Sub.cons rfl <| Sub.cons rfl <| Sub.nil _) rfl
          ·
            refine C.skip <| X.join () (Sub.cons (by rw [show m % 2 = 0 from by omega, Nat.zero_mul, Nat.add_zero]; rfl) <| Sub.cons rfl <| Sub.cons rfl <| Sub.cons rfl <| Sub.nil _) rfl
        ·
          rintro _ _ rfl
          refine C.region <| E.mv rfl rfl <| E.mv rfl rfl <| ?_
          refine E.call rfl rfl (multiply_ret _ _ _) ?_
          rintro _ _ ⟨rfl, rfl⟩
          refine E.asg rfl rfl <| E.nil <| X.outN <| X.next <| C.region <| E.mv rfl rfl <| ?_
          refine E.shr rfl rfl (by decide) (c := _ / 2) rfl rfl ?_
          refine E.asg rfl rfl <| E.nil <| X.again (m / 2, x + m % 2 * e, 2 * e) (Sub.cons rfl <| Sub.cons rfl <| Sub.cons rfl <| Sub.cons (by rw [← pow_step]; rfl) <| Sub.nil _) ⟨by simp only; omega, ?_, rfl⟩ (by simp only; omega)
          simp only
          rcases Nat.mod_two_eq_zero_or_one m with h | h
          · rw [h, Nat.zero_mul, Nat.add_zero, half_even m e h]; exact he
          · rw [h, Nat.one_mul, half_odd m e h]; exact he
      ·
        obtain rfl : m = 0 := by omega
        obtain rfl : x = m0 := by omega
        refine C.exit <| X.exitT <| X.exitT <| X.outE <| X.next <| C.seq <| C.region <| E.mv rfl rfl <| E.mv rfl rfl <| E.binw rfl rfl rfl (congrArg _ (bits_xor32 _ _)) rfl <| E.asg rfl rfl <| E.asg rfl rfl <| E.nil <| X.next <| C.ret <| ret2 rfl rfl rfl ?_
        exact ⟨by rw [combV, if_neg hc]; rfl, rfl⟩

theorem Shift_ret (a : BitVec 32) (m0 : Nat) (w : World) (hn : m0 ≤ 9223372036854775807) :
    Ret Try.prog 34 #[u32 a, i64 (m0 : Nat)] w fun v w' => v = u32 (Crc.steps (8 * m0) a) ∧ w = w' := by
  refine enter Try.func34 rfl (by kernel_rfl) Try.ntmps34 rfl ?_
  refine C.seq <| C.region <| E.asg rfl rfl <| E.nil <| X.next <| C.seq <| C.region <| E.asg rfl rfl <| E.nil <| X.next <| C.seq <| C.seq <| C.region <| E.asg rfl rfl <| E.nil <| X.next <| C.block <| ?_

  refine C.loop (G := Nat × Nat × Nat × Nat) (fun g => [(0, u32 (Crc.steps (8 * g.2.1) a)), (1, i64 (g.1 : Nat)), (5, u32 (Crc.steps (8 * g.2.2.1) Crc.one)), (6, i64 (g.2.2.2 : Nat))]) (fun g w' => g.1 ≤ m0 ∧ g.2.1 + g.1 * g.2.2.1 = m0 ∧ g.1 < 2 ^ (63 - g.2.2.2) ∧ g.2.2.2 ≤ 63 ∧ w = w') (fun g => g.1) (m0, 0, 1, 0) ?_ ?_ ?_
  · exact Sub.cons rfl <| Sub.cons rfl <| Sub.cons rfl <| Sub.cons rfl <| Sub.nil _
  · exact ⟨Nat.le_refl _, by simp, by simp only; omega, by simp, rfl⟩
  · rintro ⟨m, x, e, i⟩ _ ⟨hm, he, hlt, hi, rfl⟩
    simp only at hm he hlt hi
    refine C.seq <| C.seq <| C.region <| E.mv rfl rfl <| E.bin rfl rfl rfl rfl <| E.mv rfl rfl <| ?_
    by_cases h63 : (i : Int) < 63
    case neg =>
      have hm0 : m = 0 := by have : i = 63 := by omega
                             subst this; simpa using hlt
      subst hm0
      obtain rfl : x = m0 := by omega
      rw [decide_eq_false h63]
      refine E.off rfl rfl rfl rfl <| E.off rfl rfl rfl rfl <| E.pick rfl rfl rfl <| E.nil <| X.next <| C.condF rfl <| C.exit <| X.exitT <| X.exitT <| X.outE <| X.next <| C.seq <| C.region <| E.mv rfl rfl <| E.asg rfl rfl <| E.nil <| X.next <| C.ret <| ret1 rfl rfl ?_
      exact ⟨rfl, rfl⟩
    rw [decide_eq_true h63]
    refine E.on rfl rfl (E.mv rfl rfl ?_)
    refine E.on rfl rfl (E.bin rfl rfl rfl rfl ?_)
    refine E.pick rfl rfl rfl <| E.nil <| X.next <| ?_
    refine C.cond' rfl (fun hc => ?_) (fun hc => ?_)
    ·
      have hm0 : 0 < m := by omega
      refine C.skip <| X.next <| C.seq <| C.block <| ?_

      refine C.cut (G := Unit) (fun _ => [(0, u32 (Crc.steps (8 * (x + m % 2 * e)) a)), (1, i64 (m : Nat)), (5, u32 (Crc.steps (8 * e) Crc.one)), (6, i64 (i : Nat))]) (fun _ w' => w = w') ?_ ?_
      ·
        refine C.seq <| C.region <| E.mv rfl rfl <| ?_
        refine E.rem rfl rfl (by omega) (IntWalk.rem_in _ _ (by omega)) rfl ?_
        refine E.bin rfl rfl rfl rfl <| E.nil <| X.next <| ?_
        refine C.cond' rfl (fun hc => ?_) (fun hc => ?_)
        ·
          refine C.region <| E.mv rfl rfl <| E.mv rfl rfl <| ?_
          refine E.call rfl rfl (times_ret _ _ _) ?_
          rintro _ _ ⟨rfl, rfl⟩
          refine E.asg rfl rfl <| E.nil <| X.join () (Sub.cons (by rw [show m % 2 = 1 from by omega, Nat.one_mul, ← comb_step]; rfl) <| Sub.cons rfl <| Sub.cons rfl <| Sub.cons rfl <| Sub.nil _) rfl
        ·
          refine C.skip <| X.join () (Sub.cons (by rw [show m % 2 = 0 from by omega, Nat.zero_mul, Nat.add_zero]; rfl) <| Sub.cons rfl <| Sub.cons rfl <| Sub.cons rfl <| Sub.nil _) rfl
      ·
        rintro _ _ rfl
        refine C.seq <| C.region <| E.mv rfl rfl <| E.mv rfl rfl <| ?_
        refine E.call rfl rfl (times_ret _ _ _) ?_
        rintro _ _ ⟨rfl, rfl⟩
        refine E.asg rfl rfl <| E.nil <| X.next <| C.region <| E.mv rfl rfl <| ?_
        refine E.quo rfl rfl (by omega) (IntWalk.i64_quo _ _ (by omega)) rfl ?_
        refine E.asg rfl rfl <| E.nil <| X.outN <| X.next <| C.region <| E.mv rfl rfl <| ?_
        refine E.add rfl rfl (by omega) rfl ?_
        refine E.asg rfl rfl <| E.nil <| X.again (m / 2, x + m % 2 * e, 2 * e, i + 1) (Sub.cons rfl <| Sub.cons rfl <| Sub.cons (by rw [← pow_step]; rfl) <| Sub.cons rfl <| Sub.nil _) ⟨by simp only; omega, ?_, ?_, by simp only; omega, rfl⟩ (by simp only; omega)
        · simp only
          rcases Nat.mod_two_eq_zero_or_one m with h | h
          · rw [h, Nat.zero_mul, Nat.add_zero, half_even m e h]; exact he
          · rw [h, Nat.one_mul, half_odd m e h]; exact he
        · simp only
          rw [show 63 - i = (63 - (i + 1)) + 1 from by omega, Nat.pow_succ] at hlt
          omega
    ·
      obtain rfl : m = 0 := by omega
      obtain rfl : x = m0 := by omega
      refine C.exit <| X.exitT <| X.exitT <| X.outE <| X.next <| C.seq <| C.region <| E.mv rfl rfl <| E.asg rfl rfl <| E.nil <| X.next <| C.ret <| ret1 rfl rfl ?_
      exact ⟨rfl, rfl⟩

theorem rCombine_ret (a b : BitVec 32) (n : Int) (w : World) (hn : n ≤ 9223372036854775807) :
    Ret Try.prog 22 #[u32 a, u32 b, i64 n] w fun v w' => v = combV a b n ∧ w = w' := by
  refine enter Try.func22 rfl (by kernel_rfl) Try.ntmps22 rfl ?_
  refine C.seq <| C.region <| E.asg rfl rfl <| E.asg rfl rfl <| E.nil <| X.next <| C.seq <| C.seq <| C.region <| E.mv rfl rfl <| E.bin rfl rfl rfl rfl <| E.nil <| X.next <| ?_
  refine C.cond' rfl (fun hc => ?_) (fun hc => ?_)
  ·
    refine C.seq <| C.region <| E.asg rfl rfl <| E.asg rfl rfl <| E.nil <| X.next <| C.ret <| X.retT <| ret2 rfl rfl rfl ?_
    exact ⟨by rw [combV, if_pos hc], rfl⟩
  ·
    obtain ⟨m0, rfl⟩ : ∃ m : Nat, n = m := ⟨n.toNat, by omega⟩
    refine C.skip <| X.next <| C.seq <| C.region <| E.mv rfl rfl <| E.mv rfl rfl <| ?_
    refine E.call rfl rfl (Shift_ret _ m0 _ (by omega)) ?_
    rintro _ _ ⟨rfl, rfl⟩
    refine E.mv rfl rfl <| E.binw rfl rfl rfl (congrArg _ (bits_xor32 _ _)) rfl <| E.asg rfl rfl <| E.asg rfl rfl <| E.nil <| X.next <| C.ret <| ret2 rfl rfl rfl ?_
    exact ⟨by rw [combV, if_neg hc]; rfl, rfl⟩
end Go.Proofs.Ytmekdfkcjhgkdaa
