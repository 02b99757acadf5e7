/- Plain facts on the CRC-32 register: a step is linear and one-to-one; eight steps of a byte; the product of polynomials by steps. No program in sight. -/
namespace Go.Proofs.Ytdcgmkoonanpgaa.Crc
set_option linter.unusedSimpArgs false
set_option linter.unusedVariables false

/-- one step of the register -/
def step (x : BitVec 32) : BitVec 32 := if x.getLsbD 0 then (x >>> 1) ^^^ 0xedb88320#32 else x >>> 1

def steps : Nat → BitVec 32 → BitVec 32
  | 0, x => x
  | n + 1, x => steps n (step x)

theorem step_xor (x y : BitVec 32) : step (x ^^^ y) = step x ^^^ step y := by
  unfold step
  simp only [BitVec.getLsbD_xor]
  cases hx : x.getLsbD 0 <;> cases hy : y.getLsbD 0 <;>
    simp [BitVec.ushiftRight_xor_distrib] <;> (apply BitVec.eq_of_getLsbD_eq; intro i hi; simp; try cases (3988292384#32).getLsbD i <;> simp)
theorem step_zero : step 0#32 = 0#32 := by decide
theorem steps_zero (n : Nat) : steps n 0#32 = 0#32 := by
  induction n with
  | zero => rfl
  | succ n ih => simp [steps, step_zero, ih]
theorem steps_xor (n : Nat) (x y : BitVec 32) : steps n (x ^^^ y) = steps n x ^^^ steps n y := by
  induction n generalizing x y with
  | zero => rfl
  | succ n ih => simp [steps, step_xor, ih]
theorem steps_add (m n : Nat) (x : BitVec 32) : steps (m + n) x = steps n (steps m x) := by
  induction m generalizing x with
  | zero => simp [steps]
  | succ m ih => rw [Nat.succ_add]; simp [steps, ih]
theorem steps_succ (n : Nat) (x : BitVec 32) : steps (n + 1) x = step (steps n x) := by
  rw [steps_add n 1]; rfl

/-- the highest bit tells whether the polynomial was added: a step can be undone -/
theorem step_msb (x : BitVec 32) : (step x).getLsbD 31 = x.getLsbD 0 := by
  unfold step
  cases h : x.getLsbD 0
  · simp
  · rw [if_pos rfl, BitVec.getLsbD_xor]
    have : (0xedb88320#32).getLsbD 31 = true := by decide
    rw [this]; simp
theorem step_inj {x y : BitVec 32} (h : step x = step y) : x = y := by
  have h0 : x.getLsbD 0 = y.getLsbD 0 := by rw [← step_msb, ← step_msb, h]
  have h1 : x >>> 1 = y >>> 1 := by
    unfold step at h
    rw [h0] at h
    cases hy : y.getLsbD 0
    · rw [hy] at h; exact h
    · rw [hy, if_pos rfl, if_pos rfl] at h
      have := congrArg (· ^^^ 0xedb88320#32) h
      simpa [BitVec.xor_assoc] using this
  apply BitVec.eq_of_getLsbD_eq
  intro i hi
  cases i with
  | zero => exact h0
  | succ i =>
    have := congrArg (fun z => BitVec.getLsbD z i) h1
    simpa [BitVec.getLsbD_ushiftRight, Nat.add_comm 1 i] using this
theorem steps_inj (n : Nat) {x y : BitVec 32} (h : steps n x = steps n y) : x = y := by
  induction n generalizing x y with
  | zero => exact h
  | succ n ih => exact step_inj (ih h)

/-- while the bits that leave are 0, a step is a shift -/
theorem steps_low (k : Nat) (y : BitVec 32) (h : ∀ i, i < k → y.getLsbD i = false) : steps k y = y >>> k := by
  induction k generalizing y with
  | zero => simp [steps]
  | succ k ih =>
    have h0 : y.getLsbD 0 = false := h 0 (by omega)
    have hs : step y = y >>> 1 := by unfold step; rw [h0]; rfl
    rw [steps, hs, ih]
    · apply BitVec.eq_of_getLsbD_eq; intro i hi; simp [BitVec.getLsbD_ushiftRight]; congr 1; omega
    · intro i hi
      rw [BitVec.getLsbD_ushiftRight]
      exact h (1 + i) (by omega)
theorem steps8_split (x : BitVec 32) : steps 8 x = (x >>> 8) ^^^ steps 8 (x &&& 0xff#32) := by
  have hx : x = (x &&& 0xffffff00#32) ^^^ (x &&& 0xff#32) := by
    apply BitVec.eq_of_getLsbD_eq; intro i hi
    simp only [BitVec.getLsbD_xor, BitVec.getLsbD_and]
    have : ∀ i, i < 32 → (0xffffff00#32).getLsbD i = !(0xff#32).getLsbD i := by decide
    rw [this i hi]
    cases x.getLsbD i <;> cases (0xff#32).getLsbD i <;> rfl
  have h8 : steps 8 (x &&& 0xffffff00#32) = x >>> 8 := by
    rw [steps_low]
    · apply BitVec.eq_of_getLsbD_eq; intro i hi
      simp only [BitVec.getLsbD_ushiftRight, BitVec.getLsbD_and]
      have : ∀ i, i < 24 → (0xffffff00#32).getLsbD (8 + i) = true := by decide
      by_cases h : i < 24
      · rw [this i h]; simp
      · rw [BitVec.getLsbD_of_ge x _ (by omega)]; simp
    · intro i hi
      have : ∀ i, i < 8 → (0xffffff00#32).getLsbD i = false := by decide
      simp [this i hi]
  rw [← h8, ← steps_xor, ← hx]

/-- a byte in the register -/
def ext (c : UInt8) : BitVec 32 := BitVec.ofNat 32 c.toNat
/-- the register after bytes -/
def reg (x : BitVec 32) (l : List UInt8) : BitVec 32 := l.foldl (fun x c => steps 8 (x ^^^ ext c)) x
/-- the CRC-32 -/
def crc (l : List UInt8) : BitVec 32 := ~~~ reg 0xffffffff#32 l

theorem reg_append (x : BitVec 32) (l m : List UInt8) : reg x (l ++ m) = reg (reg x l) m := by simp [reg]
theorem reg_snoc (x : BitVec 32) (l : List UInt8) (c : UInt8) : reg x (l ++ [c]) = steps 8 (reg x l ^^^ ext c) := by simp [reg]
theorem reg_cons (x : BitVec 32) (c : UInt8) (l : List UInt8) : reg x (c :: l) = reg (steps 8 (x ^^^ ext c)) l := by simp [reg]
theorem reg_xor (x y : BitVec 32) (l : List UInt8) : reg (x ^^^ y) l = reg x l ^^^ steps (8 * l.length) y := by
  induction l generalizing x y with
  | nil => simp [reg, steps]
  | cons c l ih =>
    rw [reg_cons, reg_cons]
    have : steps 8 (x ^^^ y ^^^ ext c) = steps 8 (x ^^^ ext c) ^^^ steps 8 y := by
      rw [← steps_xor]; congr 1
      rw [BitVec.xor_assoc, BitVec.xor_comm y, ← BitVec.xor_assoc]
    rw [this, ih, ← steps_add]
    congr 2; simp; omega
theorem not_xor (a b : BitVec 32) : ~~~ (a ^^^ b) = b ^^^ ~~~ a := by
  apply BitVec.eq_of_getLsbD_eq; intro i hi
  simp only [BitVec.getLsbD_not, BitVec.getLsbD_xor, hi, decide_true, Bool.true_and]
  cases a.getLsbD i <;> cases b.getLsbD i <;> rfl
/-- the CRC-32 of two inputs, one after the other -/
theorem crc_append (l m : List UInt8) : crc (l ++ m) = steps (8 * m.length) (crc l) ^^^ crc m := by
  unfold crc
  rw [reg_append]
  have h1 : reg 0xffffffff#32 l = 0xffffffff#32 ^^^ ~~~ reg 0xffffffff#32 l := by
    apply BitVec.eq_of_getLsbD_eq; intro i hi
    have : ∀ i, i < 32 → (0xffffffff#32).getLsbD i = true := by decide
    rw [BitVec.getLsbD_xor, this i hi, BitVec.getLsbD_not]
    simp [hi]
  have h2 : reg (reg 0xffffffff#32 l) m = reg 0xffffffff#32 m ^^^ steps (8 * m.length) (~~~ reg 0xffffffff#32 l) := by
    rw [← reg_xor, ← h1]
  rw [h2]
  exact not_xor _ _

/-- the number 1 as a polynomial: the highest bit -/
def one : BitVec 32 := 0x80000000#32
theorem steps_one (i : Nat) (h : i < 32) : steps i one = one >>> i := by
  apply steps_low
  intro j hj
  have : ∀ j, j < 31 → one.getLsbD j = false := by decide
  exact this j (by omega)

/-- the sum of the bits of p from degree k on, times what q has become: k steps have been taken -/
def part (p q : BitVec 32) : Nat → BitVec 32
  | 0 => 0#32
  | k + 1 => part p q k ^^^ (if p.getLsbD (31 - k) then steps k q else 0#32)
/-- the product -/
def mul (p q : BitVec 32) : BitVec 32 := part p q 32

theorem part_steps (p q : BitVec 32) (n : Nat) (k : Nat) : part p (steps n q) k = steps n (part p q k) := by
  induction k with
  | zero => simp [part, steps_zero]
  | succ k ih =>
    simp only [part]
    rw [ih, steps_xor]
    congr 1
    split
    · rw [← steps_add, ← steps_add, Nat.add_comm]
    · rw [steps_zero]
theorem part_one (p : BitVec 32) (k : Nat) (hk : k ≤ 32) : ∀ i, i < 32 → (part p one k).getLsbD i = (decide (32 - k ≤ i) && p.getLsbD i) := by
  induction k with
  | zero => intro i hi; simp [part]; omega
  | succ k ih =>
    intro i hi
    rw [part, BitVec.getLsbD_xor, ih (by omega) i hi]
    have hb : (if p.getLsbD (31 - k) = true then steps k one else 0#32).getLsbD i = (decide (i = 31 - k) && p.getLsbD i) := by
      have h1 : ∀ i, i < 32 → ∀ k, k < 32 → (one >>> k).getLsbD i = decide (i = 31 - k) := by decide
      by_cases hp : p.getLsbD (31 - k) = true
      · rw [if_pos hp, steps_one k (by omega), h1 i hi k (by omega)]
        by_cases e : i = 31 - k
        · simp [e, hp]
        · simp [e]
      · rw [if_neg hp]
        by_cases e : i = 31 - k
        · simp [e]; simpa using hp
        · simp [e]
    rw [hb]
    by_cases e : i = 31 - k
    · have a : ¬ 32 - k ≤ 31 - k := by omega
      subst e; simp [a]
    · by_cases f : 32 - k ≤ i
      · simp [e, f]; intro; omega
      · simp [e, f]; intro; omega
theorem mul_one (p : BitVec 32) : mul p one = p := by
  apply BitVec.eq_of_getLsbD_eq; intro i hi
  unfold mul
  rw [part_one p 32 (Nat.le_refl _) i hi]; simp
/-- a product by a power of x is so many steps -/
theorem mul_steps (p : BitVec 32) (n : Nat) : mul p (steps n one) = steps n p := by
  unfold mul; rw [part_steps]; congr 1; exact mul_one p

end Go.Proofs.Ytdcgmkoonanpgaa.Crc
