/- Texts of the claim, laid together: CrcMath, Crc, Adler. -/
import Derived.Test.YtcmgbjmcklfkcaaDoorProg
import Derived.Test.YtcmgbjmcklfkcaaDoorDeflateStoresTopMg1
import Derived.Test.YtcmgbjmcklfkcaaDoorDeflateStoresTopMg13
/- Plain facts on the CRC-32 register: a step is linear and one-to-one; eight steps of a byte; the product of polynomials by steps. No program in sight. -/
namespace Go.Proofs.YtcmgbjmcklfkcaaDoor.Crc
set_option linter.unusedSimpArgs false
set_option linter.unusedVariables false

/-- one step of the register -/
def step (x : BitVec 32) : BitVec 32 := if x.getLsbD 0 then (x >>> 1) ^^^ 0xedb88320#32 else x >>> 1

def steps : Nat → BitVec 32 → BitVec 32
  | 0, x => x
  | n + 1, x => steps n (step x)

theorem step_xor (x y : BitVec 32) : step (x ^^^ y) = step x ^^^ step y := by
  unfold step
  simp only [BitVec.getLsbD_xor]
  cases hx : x.getLsbD 0 <;> cases hy : y.getLsbD 0 <;>
    simp [BitVec.ushiftRight_xor_distrib] <;> (apply BitVec.eq_of_getLsbD_eq; intro i hi; simp; try cases (3988292384#32).getLsbD i <;> simp)
theorem step_zero : step 0#32 = 0#32 := by decide
theorem steps_zero (n : Nat) : steps n 0#32 = 0#32 := by
  induction n with
  | zero => rfl
  | succ n ih => simp [steps, step_zero, ih]
theorem steps_xor (n : Nat) (x y : BitVec 32) : steps n (x ^^^ y) = steps n x ^^^ steps n y := by
  induction n generalizing x y with
  | zero => rfl
  | succ n ih => simp [steps, step_xor, ih]
theorem steps_add (m n : Nat) (x : BitVec 32) : steps (m + n) x = steps n (steps m x) := by
  induction m generalizing x with
  | zero => simp [steps]
  | succ m ih => rw [Nat.succ_add]; simp [steps, ih]
theorem steps_succ (n : Nat) (x : BitVec 32) : steps (n + 1) x = step (steps n x) := by
  rw [steps_add n 1]; rfl

/-- the highest bit tells whether the polynomial was added: a step can be undone -/
theorem step_msb (x : BitVec 32) : (step x).getLsbD 31 = x.getLsbD 0 := by
  unfold step
  cases h : x.getLsbD 0
  · simp
  · rw [if_pos rfl, BitVec.getLsbD_xor]
    have : (0xedb88320#32).getLsbD 31 = true := by decide
    rw [this]; simp
theorem step_inj {x y : BitVec 32} (h : step x = step y) : x = y := by
  have h0 : x.getLsbD 0 = y.getLsbD 0 := by rw [← step_msb, ← step_msb, h]
  have h1 : x >>> 1 = y >>> 1 := by
    unfold step at h
    rw [h0] at h
    cases hy : y.getLsbD 0
    · rw [hy] at h; exact h
    · rw [hy, if_pos rfl, if_pos rfl] at h
      have := congrArg (· ^^^ 0xedb88320#32) h
      simpa [BitVec.xor_assoc] using this
  apply BitVec.eq_of_getLsbD_eq
  intro i hi
  cases i with
  | zero => exact h0
  | succ i =>
    have := congrArg (fun z => BitVec.getLsbD z i) h1
    simpa [BitVec.getLsbD_ushiftRight, Nat.add_comm 1 i] using this
theorem steps_inj (n : Nat) {x y : BitVec 32} (h : steps n x = steps n y) : x = y := by
  induction n generalizing x y with
  | zero => exact h
  | succ n ih => exact step_inj (ih h)

/-- while the bits that leave are 0, a step is a shift -/
theorem steps_low (k : Nat) (y : BitVec 32) (h : ∀ i, i < k → y.getLsbD i = false) : steps k y = y >>> k := by
  induction k generalizing y with
  | zero => simp [steps]
  | succ k ih =>
    have h0 : y.getLsbD 0 = false := h 0 (by omega)
    have hs : step y = y >>> 1 := by unfold step; rw [h0]; rfl
    rw [steps, hs, ih]
    · apply BitVec.eq_of_getLsbD_eq; intro i hi; simp [BitVec.getLsbD_ushiftRight]; congr 1; omega
    · intro i hi
      rw [BitVec.getLsbD_ushiftRight]
      exact h (1 + i) (by omega)
theorem steps8_split (x : BitVec 32) : steps 8 x = (x >>> 8) ^^^ steps 8 (x &&& 0xff#32) := by
  have hx : x = (x &&& 0xffffff00#32) ^^^ (x &&& 0xff#32) := by
    apply BitVec.eq_of_getLsbD_eq; intro i hi
    simp only [BitVec.getLsbD_xor, BitVec.getLsbD_and]
    have : ∀ i, i < 32 → (0xffffff00#32).getLsbD i = !(0xff#32).getLsbD i := by decide
    rw [this i hi]
    cases x.getLsbD i <;> cases (0xff#32).getLsbD i <;> rfl
  have h8 : steps 8 (x &&& 0xffffff00#32) = x >>> 8 := by
    rw [steps_low]
    · apply BitVec.eq_of_getLsbD_eq; intro i hi
      simp only [BitVec.getLsbD_ushiftRight, BitVec.getLsbD_and]
      have : ∀ i, i < 24 → (0xffffff00#32).getLsbD (8 + i) = true := by decide
      by_cases h : i < 24
      · rw [this i h]; simp
      · rw [BitVec.getLsbD_of_ge x _ (by omega)]; simp
    · intro i hi
      have : ∀ i, i < 8 → (0xffffff00#32).getLsbD i = false := by decide
      simp [this i hi]
  rw [← h8, ← steps_xor, ← hx]

/-- a byte in the register -/
def ext (c : UInt8) : BitVec 32 := BitVec.ofNat 32 c.toNat
/-- the register after bytes -/
def reg (x : BitVec 32) (l : List UInt8) : BitVec 32 := l.foldl (fun x c => steps 8 (x ^^^ ext c)) x
/-- the CRC-32 -/
def crc (l : List UInt8) : BitVec 32 := ~~~ reg 0xffffffff#32 l

theorem reg_append (x : BitVec 32) (l m : List UInt8) : reg x (l ++ m) = reg (reg x l) m := by simp [reg]
theorem reg_snoc (x : BitVec 32) (l : List UInt8) (c : UInt8) : reg x (l ++ [c]) = steps 8 (reg x l ^^^ ext c) := by simp [reg]
theorem reg_cons (x : BitVec 32) (c : UInt8) (l : List UInt8) : reg x (c :: l) = reg (steps 8 (x ^^^ ext c)) l := by simp [reg]
theorem reg_xor (x y : BitVec 32) (l : List UInt8) : reg (x ^^^ y) l = reg x l ^^^ steps (8 * l.length) y := by
  induction l generalizing x y with
  | nil => simp [reg, steps]
  | cons c l ih =>
    rw [reg_cons, reg_cons]
    have : steps 8 (x ^^^ y ^^^ ext c) = steps 8 (x ^^^ ext c) ^^^ steps 8 y := by
      rw [← steps_xor]; congr 1
      rw [BitVec.xor_assoc, BitVec.xor_comm y, ← BitVec.xor_assoc]
    rw [this, ih, ← steps_add]
    congr 2; simp; omega
theorem not_xor (a b : BitVec 32) : ~~~ (a ^^^ b) = b ^^^ ~~~ a := by
  apply BitVec.eq_of_getLsbD_eq; intro i hi
  simp only [BitVec.getLsbD_not, BitVec.getLsbD_xor, hi, decide_true, Bool.true_and]
  cases a.getLsbD i <;> cases b.getLsbD i <;> rfl
/-- the CRC-32 of two inputs, one after the other -/
theorem crc_append (l m : List UInt8) : crc (l ++ m) = steps (8 * m.length) (crc l) ^^^ crc m := by
  unfold crc
  rw [reg_append]
  have h1 : reg 0xffffffff#32 l = 0xffffffff#32 ^^^ ~~~ reg 0xffffffff#32 l := by
    apply BitVec.eq_of_getLsbD_eq; intro i hi
    have : ∀ i, i < 32 → (0xffffffff#32).getLsbD i = true := by decide
    rw [BitVec.getLsbD_xor, this i hi, BitVec.getLsbD_not]
    simp [hi]
  have h2 : reg (reg 0xffffffff#32 l) m = reg 0xffffffff#32 m ^^^ steps (8 * m.length) (~~~ reg 0xffffffff#32 l) := by
    rw [← reg_xor, ← h1]
  rw [h2]
  exact not_xor _ _

/-- the number 1 as a polynomial: the highest bit -/
def one : BitVec 32 := 0x80000000#32
theorem steps_one (i : Nat) (h : i < 32) : steps i one = one >>> i := by
  apply steps_low
  intro j hj
  have : ∀ j, j < 31 → one.getLsbD j = false := by decide
  exact this j (by omega)

/-- the sum of the bits of p from degree k on, times what q has become: k steps have been taken -/
def part (p q : BitVec 32) : Nat → BitVec 32
  | 0 => 0#32
  | k + 1 => part p q k ^^^ (if p.getLsbD (31 - k) then steps k q else 0#32)
/-- the product -/
def mul (p q : BitVec 32) : BitVec 32 := part p q 32

theorem part_steps (p q : BitVec 32) (n : Nat) (k : Nat) : part p (steps n q) k = steps n (part p q k) := by
  induction k with
  | zero => simp [part, steps_zero]
  | succ k ih =>
    simp only [part]
    rw [ih, steps_xor]
    congr 1
    split
    · rw [← steps_add, ← steps_add, Nat.add_comm]
    · rw [steps_zero]
theorem part_one (p : BitVec 32) (k : Nat) (hk : k ≤ 32) : ∀ i, i < 32 → (part p one k).getLsbD i = (decide (32 - k ≤ i) && p.getLsbD i) := by
  induction k with
  | zero => intro i hi; simp [part]; omega
  | succ k ih =>
    intro i hi
    rw [part, BitVec.getLsbD_xor, ih (by omega) i hi]
    have hb : (if p.getLsbD (31 - k) = true then steps k one else 0#32).getLsbD i = (decide (i = 31 - k) && p.getLsbD i) := by
      have h1 : ∀ i, i < 32 → ∀ k, k < 32 → (one >>> k).getLsbD i = decide (i = 31 - k) := by decide
      by_cases hp : p.getLsbD (31 - k) = true
      · rw [if_pos hp, steps_one k (by omega), h1 i hi k (by omega)]
        by_cases e : i = 31 - k
        · simp [e, hp]
        · simp [e]
      · rw [if_neg hp]
        by_cases e : i = 31 - k
        · simp [e]; simpa using hp
        · simp [e]
    rw [hb]
    by_cases e : i = 31 - k
    · have a : ¬ 32 - k ≤ 31 - k := by omega
      subst e; simp [a]
    · by_cases f : 32 - k ≤ i
      · simp [e, f]; intro; omega
      · simp [e, f]; intro; omega
theorem mul_one (p : BitVec 32) : mul p one = p := by
  apply BitVec.eq_of_getLsbD_eq; intro i hi
  unfold mul
  rw [part_one p 32 (Nat.le_refl _) i hi]; simp
/-- a product by a power of x is so many steps -/
theorem mul_steps (p : BitVec 32) (n : Nat) : mul p (steps n one) = steps n p := by
  unfold mul; rw [part_steps]; congr 1; exact mul_one p

end Go.Proofs.YtcmgbjmcklfkcaaDoor.Crc

/- What the functions of package checksum return. -/
namespace Go.Proofs.YtcmgbjmcklfkcaaDoor
set_option linter.unusedSimpArgs false
set_option linter.unusedVariables false
open Go.RowKit Sym

abbrev u32 (x : BitVec 32) : Value := .int .u32 (x.toNat : Int)

theorem stepA (x : BitVec 32) (h : x.getLsbD 0 = true) : bits .xor .u32 ((x.toNat : Int) / 2) 3988292384 = ((Crc.step x).toNat : Int) := by
  have e : (x.toNat : Int) / (2 : Int) = ((x >>> 1).toNat : Int) := by rw [shr32]; rfl
  rw [e]
  have := bits_xor32 (x >>> 1) 0xedb88320#32
  unfold Crc.step; rw [if_pos h]; exact this
theorem stepB (x : BitVec 32) (h : ¬ x.getLsbD 0 = true) : (x.toNat : Int) / 2 = ((Crc.step x).toNat : Int) := by
  have e : (x.toNat : Int) / (2 : Int) = ((x >>> 1).toNat : Int) := by rw [shr32]; rfl
  rw [e]; unfold Crc.step; rw [if_neg h]
theorem lsb_iff (x : BitVec 32) : bits .and .u32 (x.toNat : Int) 1 = 1 ↔ x.getLsbD 0 = true := by
  rw [← lsb32]; simp

/-- the table after k entries -/
def tabL (k : Nat) : List Value := (List.range 256).map fun i => if i < k then u32 (Crc.steps 8 (BitVec.ofNat 32 i)) else .int .u32 0
theorem tabL_len (k : Nat) : (tabL k).length = 256 := by simp [tabL]
theorem tabL_get (k i : Nat) (h : i < 256) : (tabL k)[i]? = some (if i < k then u32 (Crc.steps 8 (BitVec.ofNat 32 i)) else .int .u32 0) := by simp [tabL, h]
theorem tabL_succ (k : Nat) (h : k < 256) : (tabL k).toArray.setIfInBounds k (u32 (Crc.steps 8 (BitVec.ofNat 32 k))) = (tabL (k + 1)).toArray := by
  rw [List.setIfInBounds_toArray]
  congr 1
  apply List.ext_getElem?
  intro i
  by_cases hi : i < 256
  · rw [List.getElem?_set, tabL_get _ _ hi, tabL_get _ _ hi, tabL_len]
    by_cases e : k = i
    · subst e; simp [h]
    · have : (i < k + 1) = (i < k) := by simp; omega
      simp [e, this]
  · rw [List.getElem?_eq_none (by simp [tabL_len]; omega), List.getElem?_eq_none (by rw [tabL_len]; omega)]
theorem tabL_one (k : Nat) : ∀ u ∈ tabL k, u.oneCell' = true := by
  intro u hu
  simp only [tabL, List.mem_map] at hu
  obtain ⟨i, _, rfl⟩ := hu
  split <;> rfl

/-! the CRC-32 of bytes -/
def tix (x : BitVec 32) (c : UInt8) : Nat := x.toNat % 256 ^^^ c.toNat
theorem u8_lt (c : UInt8) : c.toNat < 256 := c.toNat_lt
theorem tix_lt (x : BitVec 32) (c : UInt8) : tix x c < 256 := Nat.xor_lt_two_pow (n := 8) (Nat.mod_lt _ (by decide)) (u8_lt c)
theorem tix_eq (x : BitVec 32) (c : UInt8) : bits .xor .u8 ((x.toNat : Int) % 256) (c.toNat : Int) = ((tix x c : Nat) : Int) := by
  have h : (x.toNat : Int) % 256 = ((x.toNat % 256 : Nat) : Int) := by simp
  rw [h, u8_xor_nat _ _ (Nat.mod_lt _ (by decide)) (u8_lt c)]; rfl
theorem ext_toNat (c : UInt8) : (Crc.ext c).toNat = c.toNat := by
  simp [Crc.ext]
theorem shr8_ext (x : BitVec 32) (c : UInt8) : (x ^^^ Crc.ext c) >>> 8 = x >>> 8 := by
  rw [BitVec.ushiftRight_xor_distrib]
  have : Crc.ext c >>> 8 = 0#32 := by
    apply BitVec.eq_of_toNat_eq
    have := u8_lt c
    rw [BitVec.toNat_ushiftRight, ext_toNat, Nat.shiftRight_eq_div_pow]; simp; omega
  rw [this]; simp
theorem low8_ext (x : BitVec 32) (c : UInt8) : (x ^^^ Crc.ext c) &&& 0xff#32 = BitVec.ofNat 32 (tix x c) := by
  apply BitVec.eq_of_toNat_eq
  have h1 := tix_lt x c
  have h2 := u8_lt c
  have hr : (BitVec.ofNat 32 (tix x c)).toNat = tix x c := by rw [BitVec.toNat_ofNat]; exact Nat.mod_eq_of_lt (Nat.lt_trans h1 (by decide))
  have : (0xff#32).toNat = 2 ^ 8 - 1 := by decide
  rw [BitVec.toNat_and, BitVec.toNat_xor, ext_toNat, hr, this, Nat.and_two_pow_sub_one_eq_mod, tix]
  have hm : ∀ a b : Nat, b < 256 → (a ^^^ b) % 2 ^ 8 = a % 256 ^^^ b := by
    intro a b hb
    rw [Nat.xor_mod_two_pow, Nat.mod_eq_of_lt (a := b) (by simpa using hb)]
  exact hm _ _ h2
theorem upd_eq (x : BitVec 32) (c : UInt8) : bits .xor .u32 ((x.toNat : Int) / 256) ((Crc.steps 8 (BitVec.ofNat 32 (tix x c))).toNat : Int) = ((Crc.steps 8 (x ^^^ Crc.ext c)).toNat : Int) := by
  have e : (x.toNat : Int) / (256 : Int) = ((x >>> 8).toNat : Int) := by rw [shr32]; rfl
  rw [e, bits_xor32, Crc.steps8_split (x ^^^ Crc.ext c), shr8_ext, low8_ext]
theorem reg_take (x : BitVec 32) (l : List UInt8) (k : Nat) (h : k < l.length) : Crc.reg x (l.take (k + 1)) = Crc.steps 8 (Crc.reg x (l.take k) ^^^ Crc.ext l[k]) := by
  rw [List.take_succ_eq_append_getElem h, Crc.reg_snoc]

theorem flip32 (x : BitVec 32) : bits .xor .u32 (if IntKind.u32.signed then -1 else IntKind.u32.max) (x.toNat : Int) = ((~~~ x).toNat : Int) := by
  have h : (if IntKind.u32.signed then -1 else IntKind.u32.max : Int) = ((0xffffffff#32).toNat : Int) := by decide
  rw [h, bits_xor32]
  have : 0xffffffff#32 ^^^ x = ~~~ x := by
    apply BitVec.eq_of_getLsbD_eq; intro i hi
    have : ∀ i, i < 32 → (0xffffffff#32).getLsbD i = true := by decide
    rw [BitVec.getLsbD_xor, this i hi, BitVec.getLsbD_not]; simp [hi]
  rw [this]

theorem odd_iff (x : BitVec 32) : (x.toNat : Int) % 2 = 1 ↔ x.getLsbD 0 = true := by
  have : x.getLsbD 0 = decide (x.toNat % 2 = 1) := by simp [BitVec.getLsbD, Nat.testBit_zero]
  rw [this]; simp; omega
theorem quo2 (x : BitVec 32) : IntKind.u32.wrap ((x.toNat : Int).tdiv 2) = (x.toNat : Int) / 2 := IntWalk.u32_quo _ _ (by have := lt32 x; omega)

end Go.Proofs.YtcmgbjmcklfkcaaDoor

/- What the Adler-32 functions return. -/
namespace Go.Proofs.YtcmgbjmcklfkcaaDoor
set_option linter.unusedSimpArgs false
set_option linter.unusedVariables false
open Go.RowKit Sym

namespace Adler
/-- the two sums after bytes -/
def sums (l : List UInt8) : Nat × Nat := l.foldl (fun s c => ((s.1 + c.toNat) % 65521, (s.2 + (s.1 + c.toNat) % 65521) % 65521)) (1, 0)
/-- the checksum -/
def sum (l : List UInt8) : Nat := (sums l).2 * 65536 + (sums l).1
theorem sums_snoc (l : List UInt8) (c : UInt8) : sums (l ++ [c]) = (((sums l).1 + c.toNat) % 65521, ((sums l).2 + ((sums l).1 + c.toNat) % 65521) % 65521) := by simp [sums]
theorem sums_lt (l : List UInt8) : (sums l).1 < 65521 ∧ (sums l).2 < 65521 := by
  rcases List.eq_nil_or_concat l with h | ⟨m, c, h⟩
  · subst h; decide
  · rw [h, List.concat_eq_append, sums_snoc]; exact ⟨Nat.mod_lt _ (by decide), Nat.mod_lt _ (by decide)⟩
theorem sums_take (l : List UInt8) (k : Nat) (h : k < l.length) : sums (l.take (k + 1)) = (((sums (l.take k)).1 + (l[k]).toNat) % 65521, ((sums (l.take k)).2 + ((sums (l.take k)).1 + (l[k]).toNat) % 65521) % 65521) := by
  rw [List.take_succ_eq_append_getElem h, sums_snoc]
end Adler
abbrev w32 (n : Nat) : Value := .int .u32 (n : Int)
theorem rem32 (a : Nat) : (a : Int).tmod 65521 = ((a % 65521 : Nat) : Int) := by rw [Int.tmod_eq_emod_of_nonneg (by omega)]; simp
theorem add32 (a b : Nat) (h : a + b < 4294967296) : IntKind.u32.wrap ((a : Int) + (b : Int)) = ((a + b : Nat) : Int) := by rw [IntWalk.u32_in _ (by omega)]; simp
theorem join32 (a b : Nat) (ha : a < 65536) (hb : b < 65536) : bits .or .u32 ((b * 65536 : Nat) : Int) (a : Int) = ((b * 65536 + a : Nat) : Int) := by
  rw [u32_or_nat _ _ (by omega) (by omega), nat_join 16 (b * 65536) a (by simp) (by simpa using ha)]
theorem shl32 (b : Nat) (hb : b < 65536) : IntKind.u32.wrap ((b : Int) * 2 ^ min (16 : Int).toNat IntKind.u32.bits) = ((b * 65536 : Nat) : Int) := by
  rw [IntKind.wrap_u32']; simp [IntKind.bits]; omega
theorem mul32 (b : Nat) (hb : b < 65536) : IntKind.u32.wrap ((b : Int) * 65536) = ((b * 65536 : Nat) : Int) := by
  rw [IntKind.wrap_u32']; omega

theorem Adler32_ret (p : Value) (l : List UInt8) (w : World) (hp : RdL u8 w p l) :
    Ret Tryd.prog 68 #[p] w fun v w' => v = w32 (Adler.sum l) ∧ w = w' := by
  have hle : l.length ≤ 9223372036854775807 := Rd.le hp
  refine enter Tryd.func68 rfl (by kernel_rfl) Tryd.ntmps68 rfl ?_
  refine C.seq <| C.region <| E.asg rfl rfl <| E.nil <| X.next <| C.seq <| C.region <| E.asg rfl rfl <| E.asg rfl rfl <| E.nil <| X.next <| C.seq <| C.seq <| C.region <| E.mv rfl rfl <| ?_
  refine E.len rfl hp Tryd.underlying22 rfl ?_
  refine E.mv rfl rfl <| E.nil <| X.next <| C.block <| ?_

  refine C.loop (G := Nat) (fun k => [(3, w32 (Adler.sums (l.take k)).1), (4, w32 (Adler.sums (l.take k)).2), (7, p), (8, i64 l.length), (9, i64 k)]) (fun k w' => k ≤ l.length ∧ w = w') (fun k => l.length - k) 0 ?_ ?_ ?_
  · exact Sub.cons rfl <| Sub.cons rfl <| Sub.cons rfl <| Sub.cons rfl <| Sub.cons rfl <| Sub.nil _
  · exact ⟨by omega, rfl⟩
  · rintro k _ ⟨hk, rfl⟩
    refine C.seq <| C.region <| E.bin rfl rfl rfl rfl <| E.nil <| X.next <| C.seq <| ?_
    refine C.cond' rfl (fun hc => ?_) (fun hc => ?_)
    ·
      have hk' : k < l.length := by omega
      have hb := u8_lt l[k]
      have hs := Adler.sums_take l k hk'
      have hlt := Adler.sums_lt (l.take k)
      generalize Adler.sums (l.take k) = z at hs hlt
      refine C.skip <| X.next <| C.seq <| C.block <| C.seq <| C.region <| ?_
      refine E.get (k := k) rfl rfl hp rfl hk' Tryd.underlying22 (by kernel_rfl) Tryd.underlying5 rfl rfl rfl ?_
      refine E.asg rfl rfl <| E.nil <| X.next <| C.seq <| C.region <| E.mv rfl rfl <| E.mv rfl rfl <| ?_
      refine E.conv rfl Tryd.underlying5 Tryd.underlying98 (IntWalk.u32_in _ (by omega)) rfl ?_
      refine E.binw rfl rfl rfl (congrArg _ (add32 _ _ (by omega))) rfl ?_
      refine E.rem rfl rfl (by omega) (rem32 _) rfl ?_
      refine E.asg rfl rfl <| E.nil <| X.next <| C.region <| E.mv rfl rfl <| E.mv rfl rfl <| ?_
      refine E.binw rfl rfl rfl (congrArg _ (add32 _ _ (by omega))) rfl ?_
      refine E.rem rfl rfl (by omega) (rem32 _) rfl ?_
      refine E.asg rfl rfl <| E.nil <| X.outN <| X.next <| C.region <| ?_
      refine E.add rfl rfl (by omega) rfl ?_
      refine E.mv rfl rfl <| E.nil <| X.again (k + 1) (Sub.cons (by rw [hs]; rfl) <| Sub.cons (by rw [hs]; rfl) <| Sub.cons rfl <| Sub.cons rfl <| Sub.cons rfl <| Sub.nil _) ⟨by omega, rfl⟩ (by omega)
    ·
      obtain rfl : k = l.length := by omega
      have hlt := Adler.sums_lt l
      rw [List.take_length]
      refine C.exit <| X.exitT <| X.exitT <| X.outE <| X.next <| C.seq <| C.region <| E.mv rfl rfl <| ?_
      refine E.shl rfl rfl (by omega) (shl32 _ (by omega)) rfl ?_
      refine E.mv rfl rfl <| E.binw rfl rfl rfl (congrArg _ (join32 _ _ (by omega) (by omega))) rfl <| E.asg rfl rfl <| E.nil <| X.next <| C.ret <| ret1 rfl rfl ?_
      exact ⟨rfl, rfl⟩

end Go.Proofs.YtcmgbjmcklfkcaaDoor
