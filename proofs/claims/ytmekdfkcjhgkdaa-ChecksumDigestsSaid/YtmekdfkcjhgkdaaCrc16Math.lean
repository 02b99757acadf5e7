/- Plain facts on the CRC-16 register: a step is linear and one-to-one; eight steps of a byte. No program in sight. -/
namespace Go.Proofs.Ytmekdfkcjhgkdaa.Crc16

/-- one step of the register -/
def step (x : BitVec 16) : BitVec 16 := if x.getLsbD 15 then (x <<< 1) ^^^ 0x1021#16 else x <<< 1

def steps : Nat → BitVec 16 → BitVec 16
  | 0, x => x
  | n + 1, x => steps n (step x)

theorem shl_xor (x y : BitVec 16) (k : Nat) : (x ^^^ y) <<< k = (x <<< k) ^^^ (y <<< k) := by
  apply BitVec.eq_of_getLsbD_eq; intro i hi
  simp only [BitVec.getLsbD_xor, BitVec.getLsbD_shiftLeft, hi, decide_true, Bool.true_and]
  cases decide (i < k) <;> simp
theorem xor_swap (a b p : BitVec 16) : (a ^^^ p) ^^^ (b ^^^ p) = a ^^^ b := by
  apply BitVec.eq_of_getLsbD_eq; intro i hi
  simp only [BitVec.getLsbD_xor]
  cases a.getLsbD i <;> cases b.getLsbD i <;> cases p.getLsbD i <;> rfl
theorem step_xor (x y : BitVec 16) : step (x ^^^ y) = step x ^^^ step y := by
  unfold step
  rw [BitVec.getLsbD_xor, shl_xor]
  generalize x <<< 1 = a
  generalize y <<< 1 = b
  cases x.getLsbD 15 <;> cases y.getLsbD 15
  · rfl
  · show (a ^^^ b) ^^^ _ = a ^^^ (b ^^^ _); rw [BitVec.xor_assoc]
  · show (a ^^^ b) ^^^ _ = (a ^^^ _) ^^^ b; rw [BitVec.xor_assoc, BitVec.xor_assoc, BitVec.xor_comm b]
  · show a ^^^ b = (a ^^^ _) ^^^ (b ^^^ _); rw [xor_swap]
theorem step_zero : step 0#16 = 0#16 := by decide
theorem steps_zero (n : Nat) : steps n 0#16 = 0#16 := by
  induction n with
  | zero => rfl
  | succ n ih => simp [steps, step_zero, ih]
theorem steps_xor (n : Nat) (x y : BitVec 16) : steps n (x ^^^ y) = steps n x ^^^ steps n y := by
  induction n generalizing x y with
  | zero => rfl
  | succ n ih => simp [steps, step_xor, ih]
theorem steps_add (m n : Nat) (x : BitVec 16) : steps (m + n) x = steps n (steps m x) := by
  induction m generalizing x with
  | zero => simp [steps]
  | succ m ih => rw [Nat.succ_add]; simp [steps, ih]
theorem steps_succ (n : Nat) (x : BitVec 16) : steps (n + 1) x = step (steps n x) := by
  rw [steps_add n 1]; rfl
theorem step_lsb (x : BitVec 16) : (step x).getLsbD 0 = x.getLsbD 15 := by
  have hz : (x <<< 1).getLsbD 0 = false := by rw [BitVec.getLsbD_shiftLeft]; rfl
  unfold step
  cases h : x.getLsbD 15
  · exact hz
  · rw [if_pos rfl, BitVec.getLsbD_xor, hz]; rfl
theorem step_inj {x y : BitVec 16} (h : step x = step y) : x = y := by
  have h0 : x.getLsbD 15 = y.getLsbD 15 := by rw [← step_lsb, ← step_lsb, h]
  have h1 : x <<< 1 = y <<< 1 := by
    unfold step at h
    rw [h0] at h
    cases hy : y.getLsbD 15
    · rw [hy] at h; exact h
    · rw [hy, if_pos rfl, if_pos rfl] at h
      have := congrArg (· ^^^ 0x1021#16) h
      simpa [BitVec.xor_assoc] using this
  apply BitVec.eq_of_getLsbD_eq
  intro i hi
  by_cases e : i = 15
  · rw [e]; exact h0
  · have h2 := congrArg (fun z => BitVec.getLsbD z (i + 1)) h1
    simp only [BitVec.getLsbD_shiftLeft] at h2
    have h3 : i + 1 < 16 := by omega
    simpa [h3] using h2
theorem steps_inj (n : Nat) {x y : BitVec 16} (h : steps n x = steps n y) : x = y := by
  induction n generalizing x y with
  | zero => exact h
  | succ n ih => exact step_inj (ih h)
/-- while the bits that leave are 0, a step is a shift -/
theorem steps_high (k : Nat) (y : BitVec 16) (h : ∀ i, i < k → y.getLsbD (15 - i) = false) (hk : k ≤ 16) : steps k y = y <<< k := by
  induction k generalizing y with
  | zero => simp [steps]
  | succ k ih =>
    have h0 : y.getLsbD 15 = false := h 0 (by omega)
    have hs : step y = y <<< 1 := by unfold step; rw [h0]; rfl
    rw [steps, hs, ih]
    · apply BitVec.eq_of_getLsbD_eq; intro i hi
      simp only [BitVec.getLsbD_shiftLeft, hi, decide_true, Bool.true_and]
      by_cases e : i < k + 1
      · by_cases f : i < k
        · simp [e, f]
        · have : i - k = 0 := by omega
          simp [e, this]
      · have f : ¬ i < k := by omega
        have g : ¬ i - k < 1 := by omega
        have h16 : i - k < 16 := by omega
        simp [e, f, g, h16]
        congr 1
    · intro i hi
      rw [BitVec.getLsbD_shiftLeft]
      have e1 : ¬ (15 - i < 1) := by omega
      have e2 : 15 - i - 1 = 15 - (i + 1) := by omega
      rw [e2, h (i + 1) (by omega)]; simp
    · omega
theorem steps8_split (x : BitVec 16) : steps 8 x = (x <<< 8) ^^^ steps 8 (x &&& 0xff00#16) := by
  have hx : x = (x &&& 0x00ff#16) ^^^ (x &&& 0xff00#16) := by
    apply BitVec.eq_of_getLsbD_eq; intro i hi
    simp only [BitVec.getLsbD_xor, BitVec.getLsbD_and]
    have : ∀ i, i < 16 → (0x00ff#16).getLsbD i = !(0xff00#16).getLsbD i := by decide
    rw [this i hi]
    cases x.getLsbD i <;> cases (0xff00#16).getLsbD i <;> rfl
  have h8 : steps 8 (x &&& 0x00ff#16) = x <<< 8 := by
    rw [steps_high _ _ _ (by decide)]
    · apply BitVec.eq_of_getLsbD_eq; intro i hi
      simp only [BitVec.getLsbD_shiftLeft, BitVec.getLsbD_and, hi, decide_true, Bool.true_and]
      have : ∀ i, i < 8 → (0x00ff#16).getLsbD i = true := by decide
      by_cases h : i < 8
      · simp [h]
      · rw [this (i - 8) (by omega)]; simp
    · intro i hi
      have : ∀ i, i < 8 → (0x00ff#16).getLsbD (15 - i) = false := by decide
      rw [BitVec.getLsbD_and, this i hi]; simp
  rw [← h8, ← steps_xor, ← hx]

/-- a byte in the upper half of the register -/
def ext (c : UInt8) : BitVec 16 := BitVec.ofNat 16 (c.toNat * 256)
/-- the register after bytes -/
def reg (x : BitVec 16) (l : List UInt8) : BitVec 16 := l.foldl (fun x c => steps 8 (x ^^^ ext c)) x
/-- the CRC-16 -/
def crc (l : List UInt8) : BitVec 16 := reg 0xffff#16 l
theorem reg_snoc (x : BitVec 16) (l : List UInt8) (c : UInt8) : reg x (l ++ [c]) = steps 8 (reg x l ^^^ ext c) := by simp [reg]
theorem reg_cons (x : BitVec 16) (c : UInt8) (l : List UInt8) : reg x (c :: l) = reg (steps 8 (x ^^^ ext c)) l := by simp [reg]
theorem reg_append (x : BitVec 16) (l m : List UInt8) : reg x (l ++ m) = reg (reg x l) m := by simp [reg]
theorem reg_xor (x y : BitVec 16) (l : List UInt8) : reg (x ^^^ y) l = reg x l ^^^ steps (8 * l.length) y := by
  induction l generalizing x y with
  | nil => simp [reg, steps]
  | cons c l ih =>
    rw [reg_cons, reg_cons]
    have : steps 8 (x ^^^ y ^^^ ext c) = steps 8 (x ^^^ ext c) ^^^ steps 8 y := by
      rw [← steps_xor]; congr 1
      rw [BitVec.xor_assoc, BitVec.xor_comm y, ← BitVec.xor_assoc]
    rw [this, ih, ← steps_add]
    congr 2; simp; omega
end Go.Proofs.Ytmekdfkcjhgkdaa.Crc16
