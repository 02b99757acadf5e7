/- Plain facts on checksums: linear; a flipped bit; a changed byte. No program in sight. -/
import Derived.Test.YtmekdfkcjhgkdaaCrcMath
import Derived.Test.YtmekdfkcjhgkdaaCrc16Math
import Derived.Test.YtmekdfkcjhgkdaaAdler
namespace Go.Proofs.Ytmekdfkcjhgkdaa

theorem ext_xor (c d : UInt8) : Crc.ext (c ^^^ d) = Crc.ext c ^^^ Crc.ext d := by
  apply BitVec.eq_of_toNat_eq
  rw [BitVec.toNat_xor, ext_toNat, ext_toNat, ext_toNat, UInt8.toNat_xor]
theorem xor4 (a b c d : BitVec 32) : a ^^^ b ^^^ (c ^^^ d) = (a ^^^ c) ^^^ (b ^^^ d) := by
  rw [BitVec.xor_assoc, BitVec.xor_assoc, ← BitVec.xor_assoc b, BitVec.xor_comm b c, BitVec.xor_assoc c]
/-- the register is linear -/
theorem reg_zip (p q : List UInt8) (h : p.length = q.length) : ∀ x y, Crc.reg (x ^^^ y) (List.zipWith (· ^^^ ·) p q) = Crc.reg x p ^^^ Crc.reg y q := by
  induction p generalizing q with
  | nil => intro x y; cases q <;> simp_all [Crc.reg]
  | cons c p ih =>
    intro x y
    cases q with
    | nil => simp at h
    | cons d q =>
      rw [List.zipWith_cons_cons, Crc.reg_cons, Crc.reg_cons, Crc.reg_cons, ← ih q (by simpa using h), ext_xor, xor4, Crc.steps_xor]
theorem zip_zero {p : List UInt8} : List.zipWith (· ^^^ ·) p (List.replicate p.length 0) = p := by
  induction p with
  | nil => rfl
  | cons c p ih => rw [List.length_cons, List.replicate_succ, List.zipWith_cons_cons, ih]; simp
theorem crc_linear (p q : List UInt8) (h : p.length = q.length) : Crc.crc (List.zipWith (· ^^^ ·) p q) = Crc.crc p ^^^ Crc.crc q ^^^ Crc.crc (List.replicate p.length 0) := by
  unfold Crc.crc
  have h1 := reg_zip p q h 0xffffffff#32 0xffffffff#32
  have h2 := reg_zip (List.zipWith (· ^^^ ·) p q) (List.replicate p.length 0) (by simp [h]) (0xffffffff#32 ^^^ 0xffffffff#32) 0xffffffff#32
  have e : List.zipWith (· ^^^ ·) (List.zipWith (· ^^^ ·) p q) (List.replicate p.length 0) = List.zipWith (· ^^^ ·) p q := by
    have := @zip_zero (List.zipWith (· ^^^ ·) p q)
    rw [List.length_zipWith, ← h, Nat.min_self] at this; exact this
  rw [e, h1, BitVec.xor_assoc, BitVec.xor_self, BitVec.xor_zero] at h2
  rw [h2]
  apply BitVec.eq_of_getLsbD_eq; intro i hi
  simp only [BitVec.getLsbD_not, BitVec.getLsbD_xor, hi, decide_true, Bool.true_and]
  generalize (Crc.reg 0xffffffff#32 p).getLsbD i = a
  generalize (Crc.reg 0xffffffff#32 q).getLsbD i = b
  generalize (Crc.reg 0xffffffff#32 (List.replicate p.length 0)).getLsbD i = c
  cases a <;> cases b <;> cases c <;> rfl
theorem ext16_xor (c d : UInt8) : Crc16.ext (c ^^^ d) = Crc16.ext c ^^^ Crc16.ext d := by
  apply BitVec.eq_of_getLsbD_eq; intro i hi
  have key : ∀ c : UInt8, (Crc16.ext c).getLsbD i = (decide (8 ≤ i) && c.toNat.testBit (i - 8)) := by
    intro c
    unfold Crc16.ext
    rw [BitVec.getLsbD_ofNat, show (256 : Nat) = 2 ^ 8 from rfl, Nat.testBit_mul_two_pow]; simp [hi]
  rw [BitVec.getLsbD_xor, key, key, key, UInt8.toNat_xor, Nat.testBit_xor]
  cases decide (8 ≤ i) <;> rfl
theorem xor4' (a b c d : BitVec 16) : a ^^^ b ^^^ (c ^^^ d) = (a ^^^ c) ^^^ (b ^^^ d) := by
  rw [BitVec.xor_assoc, BitVec.xor_assoc, ← BitVec.xor_assoc b, BitVec.xor_comm b c, BitVec.xor_assoc c]
theorem reg16_zip (p q : List UInt8) (h : p.length = q.length) : ∀ x y, Crc16.reg (x ^^^ y) (List.zipWith (· ^^^ ·) p q) = Crc16.reg x p ^^^ Crc16.reg y q := by
  induction p generalizing q with
  | nil => intro x y; cases q <;> simp_all [Crc16.reg]
  | cons c p ih =>
    intro x y
    cases q with
    | nil => simp at h
    | cons d q =>
      rw [List.zipWith_cons_cons, Crc16.reg_cons, Crc16.reg_cons, Crc16.reg_cons, ← ih q (by simpa using h), ext16_xor, xor4', Crc16.steps_xor]
theorem crc16_linear (p q : List UInt8) (h : p.length = q.length) : Crc16.crc (List.zipWith (· ^^^ ·) p q) = Crc16.crc p ^^^ Crc16.crc q ^^^ Crc16.crc (List.replicate p.length 0) := by
  unfold Crc16.crc
  have h1 := reg16_zip p q h 0xffff#16 0xffff#16
  have h2 := reg16_zip (List.zipWith (· ^^^ ·) p q) (List.replicate p.length 0) (by simp [h]) (0xffff#16 ^^^ 0xffff#16) 0xffff#16
  have e : List.zipWith (· ^^^ ·) (List.zipWith (· ^^^ ·) p q) (List.replicate p.length 0) = List.zipWith (· ^^^ ·) p q := by
    have := @zip_zero (List.zipWith (· ^^^ ·) p q)
    rw [List.length_zipWith, ← h, Nat.min_self] at this; exact this
  rw [e, h1, BitVec.xor_assoc, BitVec.xor_self, BitVec.xor_zero] at h2
  exact h2

/-- one byte of an input is changed by c -/
theorem reg_set (l : List UInt8) (j : Nat) (c : UInt8) (h : j < l.length) (x : BitVec 32) : Crc.reg x (l.set j (l[j] ^^^ c)) = Crc.reg x l ^^^ Crc.steps (8 * (l.length - j)) (Crc.ext c) := by
  induction l generalizing j x with
  | nil => simp at h
  | cons d l ih =>
    cases j with
    | zero =>
      rw [List.set_cons_zero, Crc.reg_cons, Crc.reg_cons, List.getElem_cons_zero, ext_xor, ← BitVec.xor_assoc, Crc.steps_xor, Crc.reg_xor, ← Crc.steps_add]
      congr 2; simp; omega
    | succ j =>
      rw [List.set_cons_succ, Crc.reg_cons, Crc.reg_cons]
      have := ih j (by simpa using h) (Crc.steps 8 (x ^^^ Crc.ext d))
      rw [List.getElem_cons_succ, this]; simp
theorem crc_set (l : List UInt8) (j : Nat) (c : UInt8) (h : j < l.length) : Crc.crc (l.set j (l[j] ^^^ c)) = Crc.crc l ^^^ Crc.steps (8 * (l.length - j)) (Crc.ext c) := by
  unfold Crc.crc
  rw [reg_set l j c h, Crc.not_xor, BitVec.xor_comm]
theorem reg16_set (l : List UInt8) (j : Nat) (c : UInt8) (h : j < l.length) (x : BitVec 16) : Crc16.reg x (l.set j (l[j] ^^^ c)) = Crc16.reg x l ^^^ Crc16.steps (8 * (l.length - j)) (Crc16.ext c) := by
  induction l generalizing j x with
  | nil => simp at h
  | cons d l ih =>
    cases j with
    | zero =>
      rw [List.set_cons_zero, Crc16.reg_cons, Crc16.reg_cons, List.getElem_cons_zero, ext16_xor, ← BitVec.xor_assoc, Crc16.steps_xor, Crc16.reg_xor, ← Crc16.steps_add]
      congr 2; simp; omega
    | succ j =>
      rw [List.set_cons_succ, Crc16.reg_cons, Crc16.reg_cons]
      have := ih j (by simpa using h) (Crc16.steps 8 (x ^^^ Crc16.ext d))
      rw [List.getElem_cons_succ, this]; simp

/-- the bit t of a byte, counted from the least significant one; from the most significant one -/
def bitL (t : Nat) : UInt8 := UInt8.ofNat (2 ^ (t % 8))
def bitH (t : Nat) : UInt8 := UInt8.ofNat (128 / 2 ^ (t % 8))
theorem one_shr (t : Nat) (h : t < 8) : Crc.ext (bitL t) = Crc.steps (31 - t) Crc.one := by
  rw [Crc.steps_one _ (by omega)]
  have : ∀ t, t < 8 → Crc.ext (bitL t) = Crc.one >>> (31 - t) := by decide
  exact this t h
theorem bit_steps (i : Nat) (h : i < 32) : (1#32 <<< i) = Crc.steps (31 - i) Crc.one := by
  rw [Crc.steps_one _ (by omega)]
  have : ∀ i, i < 32 → (1#32 <<< i) = Crc.one >>> (31 - i) := by decide
  exact this i h
/-- flipping bit k of n bytes: so many steps from the end -/
theorem flip_steps (n k at_ i : Nat) (hk : k = at_ + i) (hlt : k < 8 * n) (hi : i < 32) (hat : at_ ≤ 8 * n) : Crc.steps (8 * (n - k / 8)) (Crc.ext (bitL (k % 8))) = Crc.steps (8 * n - at_) (1#32 <<< i) := by
  rw [one_shr _ (Nat.mod_lt _ (by decide)), bit_steps i hi, ← Crc.steps_add, ← Crc.steps_add]
  congr 1; omega
theorem bit16_steps (i : Nat) (h : i < 16) : (0x8000#16 >>> i) = Crc16.steps (15 - i) 1#16 := by
  have : ∀ i, i < 16 → (0x8000#16 >>> i) = Crc16.steps (15 - i) 1#16 := by decide +kernel
  exact this i h
theorem one16_shr (t : Nat) (h : t < 8) : Crc16.ext (bitH t) = Crc16.steps (15 - t) 1#16 := by
  have : ∀ t, t < 8 → Crc16.ext (bitH t) = Crc16.steps (15 - t) 1#16 := by decide +kernel
  exact this t h
theorem flip16_steps (n k at_ i : Nat) (hk : k = at_ + i) (hlt : k < 8 * n) (hi : i < 16) (hat : at_ ≤ 8 * n) : Crc16.steps (8 * (n - k / 8)) (Crc16.ext (bitH (k % 8))) = Crc16.steps (8 * n - at_) (0x8000#16 >>> i) := by
  rw [one16_shr _ (Nat.mod_lt _ (by decide)), bit16_steps i hi, ← Crc16.steps_add, ← Crc16.steps_add]
  congr 1; omega

/-! what 'flipped' makes of bytes -/
/-- is the i-th bit of the mask to be applied? -/
def hits (n at_ mask i : Nat) : Bool := decide (mask / 2 ^ i % 2 = 1 ∧ at_ + i < 8 * n)
def flipTo (high : Bool) (l : List UInt8) (at_ mask : Nat) : Nat → List UInt8
  | 0 => l
  | i + 1 => if hits l.length at_ mask i then
      let o := flipTo high l at_ mask i
      o.set ((at_ + i) / 8) (o.getD ((at_ + i) / 8) 0 ^^^ (if high then bitH (at_ + i) else bitL (at_ + i)))
    else flipTo high l at_ mask i
def anyTo (n at_ mask : Nat) : Nat → Bool
  | 0 => false
  | i + 1 => anyTo n at_ mask i || hits n at_ mask i
theorem flipTo_len (high : Bool) (l : List UInt8) (at_ mask i : Nat) : (flipTo high l at_ mask i).length = l.length := by
  induction i with
  | zero => rfl
  | succ i ih => rw [flipTo]; split <;> simp [ih]
/-- the bits that were applied, as a register -/
def pat (n at_ mask : Nat) : Nat → BitVec 32
  | 0 => 0#32
  | i + 1 => if hits n at_ mask i then pat n at_ mask i ^^^ (1#32 <<< i) else pat n at_ mask i
theorem pat_hi (n at_ mask : Nat) : ∀ i, i ≤ 32 → ∀ j, i ≤ j → (pat n at_ mask i).getLsbD j = false := by
  intro i
  induction i with
  | zero => intro _ j _; simp [pat]
  | succ i ih =>
    intro h j hj
    rw [pat]
    split
    · rw [BitVec.getLsbD_xor, ih (by omega) j (by omega), BitVec.getLsbD_shiftLeft]
      have : ¬ j - i = 0 := by omega
      simp [BitVec.getLsbD_one, this]
    · exact ih (by omega) j (by omega)
theorem pat_any (n at_ mask : Nat) : ∀ i, i ≤ 32 → (pat n at_ mask i ≠ 0#32 ↔ anyTo n at_ mask i = true) := by
  intro i
  induction i with
  | zero => intro _; simp [pat, anyTo]
  | succ i ih =>
    intro h
    rw [pat, anyTo]
    by_cases hh : hits n at_ mask i = true
    · rw [if_pos hh, hh]
      simp only [Bool.or_true, iff_true]
      intro e
      have h1 := congrArg (fun z => BitVec.getLsbD z i) e
      simp only [BitVec.getLsbD_xor, pat_hi n at_ mask i (by omega) i (Nat.le_refl _), BitVec.getLsbD_shiftLeft] at h1
      have : i < 32 := by omega
      simp [this] at h1
    · rw [if_neg hh]
      have : hits n at_ mask i = false := by simpa using hh
      rw [this, Bool.or_false]; exact ih (by omega)
theorem flip_crc (l : List UInt8) (at_ mask : Nat) (hat : at_ ≤ 8 * l.length) : ∀ i, i ≤ 32 → Crc.crc (flipTo false l at_ mask i) = Crc.crc l ^^^ Crc.steps (8 * l.length - at_) (pat l.length at_ mask i) := by
  intro i
  induction i with
  | zero => intro _; rw [flipTo, pat, Crc.steps_zero, BitVec.xor_zero]
  | succ i ih =>
    intro h
    rw [flipTo, pat]
    by_cases hh : hits l.length at_ mask i = true
    · rw [if_pos hh, if_pos hh]
      have hlt : at_ + i < 8 * l.length := (of_decide_eq_true hh).2
      have hj : (at_ + i) / 8 < (flipTo false l at_ mask i).length := by rw [flipTo_len]; omega
      have hg : (flipTo false l at_ mask i).getD ((at_ + i) / 8) 0 = (flipTo false l at_ mask i)[(at_ + i) / 8] := by
        rw [List.getD_eq_getElem?_getD, List.getElem?_eq_getElem hj]; rfl
      simp only [hg, Bool.false_eq_true, if_false]
      rw [crc_set _ _ _ hj, ih (by omega), flipTo_len, Crc.steps_xor, ← BitVec.xor_assoc]
      congr 1
      have : bitL (at_ + i) = bitL ((at_ + i) % 8) := by unfold bitL; rw [Nat.mod_mod]
      rw [this]
      exact flip_steps l.length (at_ + i) at_ i rfl hlt (by omega) hat
    · rw [if_neg hh, if_neg hh]; exact ih (by omega)
/-- a burst of at most 32 bits is seen -/
theorem burst (l : List UInt8) (at_ mask : Nat) (hat : at_ ≤ 8 * l.length) : Crc.crc (flipTo false l at_ mask 32) ≠ Crc.crc l ↔ anyTo l.length at_ mask 32 = true := by
  rw [flip_crc l at_ mask hat 32 (Nat.le_refl _), ← pat_any l.length at_ mask 32 (Nat.le_refl _)]
  constructor
  · intro h e; rw [e, Crc.steps_zero, BitVec.xor_zero] at h; exact h rfl
  · intro h e
    apply h
    have h2 := congrArg (Crc.crc l ^^^ ·) e
    simp only [← BitVec.xor_assoc, BitVec.xor_self, BitVec.zero_xor] at h2
    rw [← Crc.steps_zero (8 * l.length - at_)] at h2
    exact Crc.steps_inj _ h2
def pat16 (n at_ mask : Nat) : Nat → BitVec 16
  | 0 => 0#16
  | i + 1 => if hits n at_ mask i then pat16 n at_ mask i ^^^ (0x8000#16 >>> i) else pat16 n at_ mask i
theorem top_shr (i j : Nat) (hi : i < 16) (hj : j < 16) : (0x8000#16 >>> i).getLsbD j = decide (j = 15 - i) := by
  have : ∀ i, i < 16 → ∀ j, j < 16 → (0x8000#16 >>> i).getLsbD j = decide (j = 15 - i) := by decide
  exact this i hi j hj
theorem pat16_lo (n at_ mask : Nat) : ∀ i, i ≤ 16 → ∀ j, j + i < 16 → (pat16 n at_ mask i).getLsbD j = false := by
  intro i
  induction i with
  | zero => intro _ j _; simp [pat16]
  | succ i ih =>
    intro h j hj
    rw [pat16]
    split
    · rw [BitVec.getLsbD_xor, ih (by omega) j (by omega), top_shr i j (by omega) (by omega)]
      have : ¬ j = 15 - i := by omega
      simp [this]
    · exact ih (by omega) j (by omega)
theorem pat16_any (n at_ mask : Nat) : ∀ i, i ≤ 16 → (pat16 n at_ mask i ≠ 0#16 ↔ anyTo n at_ mask i = true) := by
  intro i
  induction i with
  | zero => intro _; simp [pat16, anyTo]
  | succ i ih =>
    intro h
    rw [pat16, anyTo]
    by_cases hh : hits n at_ mask i = true
    · rw [if_pos hh, hh]
      simp only [Bool.or_true, iff_true]
      intro e
      have h1 := congrArg (fun z => BitVec.getLsbD z (15 - i)) e
      simp only [BitVec.getLsbD_xor, pat16_lo n at_ mask i (by omega) (15 - i) (by omega), top_shr i (15 - i) (by omega) (by omega)] at h1
      simp at h1
    · rw [if_neg hh]
      have : hits n at_ mask i = false := by simpa using hh
      rw [this, Bool.or_false]; exact ih (by omega)
theorem flip_crc16 (l : List UInt8) (at_ mask : Nat) (hat : at_ ≤ 8 * l.length) : ∀ i, i ≤ 16 → Crc16.crc (flipTo true l at_ mask i) = Crc16.crc l ^^^ Crc16.steps (8 * l.length - at_) (pat16 l.length at_ mask i) := by
  intro i
  induction i with
  | zero => intro _; rw [flipTo, pat16, Crc16.steps_zero, BitVec.xor_zero]
  | succ i ih =>
    intro h
    rw [flipTo, pat16]
    by_cases hh : hits l.length at_ mask i = true
    · rw [if_pos hh, if_pos hh]
      have hlt : at_ + i < 8 * l.length := (of_decide_eq_true hh).2
      have hj : (at_ + i) / 8 < (flipTo true l at_ mask i).length := by rw [flipTo_len]; omega
      have hg : (flipTo true l at_ mask i).getD ((at_ + i) / 8) 0 = (flipTo true l at_ mask i)[(at_ + i) / 8] := by
        rw [List.getD_eq_getElem?_getD, List.getElem?_eq_getElem hj]; rfl
      simp only [hg, if_true]
      unfold Crc16.crc at ih ⊢
      rw [reg16_set _ _ _ hj, ih (by omega), flipTo_len, Crc16.steps_xor, ← BitVec.xor_assoc]
      congr 1
      have : bitH (at_ + i) = bitH ((at_ + i) % 8) := by unfold bitH; rw [Nat.mod_mod]
      rw [this]
      exact flip16_steps l.length (at_ + i) at_ i rfl hlt (by omega) hat
    · rw [if_neg hh, if_neg hh]; exact ih (by omega)
theorem burst16 (l : List UInt8) (at_ mask : Nat) (hat : at_ ≤ 8 * l.length) : Crc16.crc (flipTo true l at_ mask 16) ≠ Crc16.crc l ↔ anyTo l.length at_ mask 16 = true := by
  rw [flip_crc16 l at_ mask hat 16 (Nat.le_refl _), ← pat16_any l.length at_ mask 16 (Nat.le_refl _)]
  constructor
  · intro h e; rw [e, Crc16.steps_zero, BitVec.xor_zero] at h; exact h rfl
  · intro h e
    apply h
    have h2 := congrArg (Crc16.crc l ^^^ ·) e
    simp only [← BitVec.xor_assoc, BitVec.xor_self, BitVec.zero_xor] at h2
    rw [← Crc16.steps_zero (8 * l.length - at_)] at h2
    exact Crc16.steps_inj _ h2

/-! Adler-32: a changed byte -/
theorem sums_fst (l : List UInt8) : ∀ s : Nat × Nat, (l.foldl (fun s c => ((s.1 + c.toNat) % 65521, (s.2 + (s.1 + c.toNat) % 65521) % 65521)) s).1 % 65521 = (s.1 + (l.map UInt8.toNat).sum) % 65521 := by
  induction l with
  | nil => intro s; simp
  | cons c l ih => intro s; rw [List.foldl_cons, ih, List.map_cons, List.sum_cons]; simp only; omega
theorem sum_set (l : List UInt8) (i : Nat) (c : UInt8) (h : i < l.length) : ((l.set i c).map UInt8.toNat).sum + (l[i]).toNat = (l.map UInt8.toNat).sum + c.toNat := by
  induction l generalizing i with
  | nil => simp at h
  | cons d l ih =>
    cases i with
    | zero => simp; omega
    | succ i => have := ih i (by simpa using h); simp at this ⊢; omega
theorem adler_byte (l : List UInt8) (i : Nat) (c : UInt8) (h : i < l.length) : Adler.sum (l.set i c) = Adler.sum l ↔ c = l[i] := by
  constructor
  · intro e
    have h1 := Adler.sums_lt (l.set i c)
    have h2 := Adler.sums_lt l
    unfold Adler.sum at e
    have e1 : (Adler.sums (l.set i c)).1 = (Adler.sums l).1 := by omega
    have a1 := sums_fst (l.set i c) (1, 0)
    have a2 := sums_fst l (1, 0)
    have a3 := sum_set l i c h
    have c1 := u8_lt c
    have c2 := u8_lt l[i]
    change (Adler.sums (l.set i c)).1 % 65521 = _ at a1
    change (Adler.sums l).1 % 65521 = _ at a2
    simp only at a1 a2
    apply UInt8.toNat_inj.1
    omega
  · intro e; subst e; simp
end Go.Proofs.Ytmekdfkcjhgkdaa
