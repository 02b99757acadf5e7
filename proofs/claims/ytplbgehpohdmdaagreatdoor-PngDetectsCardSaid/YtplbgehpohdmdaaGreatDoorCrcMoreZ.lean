/- Plain facts on checksums: linear; a flipped bit; a changed byte. No program in sight. -/
import Derived.Test.YtplbgehpohdmdaaGreatDoorZ13
import Derived.Test.YtplbgehpohdmdaaGreatDoorZ15
import Derived.Test.YtplbgehpohdmdaaGreatDoorCrc16MathZ
set_option linter.unusedSimpArgs false
set_option linter.unusedVariables false
namespace Go.Proofs.YtplbgehpohdmdaaGreatDoor
theorem ext_xor (c d : UInt8) : Crc.ext (c ^^^ d) = Crc.ext c ^^^ Crc.ext d := by
 apply BitVec.eq_of_toNat_eq
 rw [BitVec.toNat_xor, ext_toNat, ext_toNat, ext_toNat, UInt8.toNat_xor]
theorem reg_set (l : List UInt8) (j : Nat) (c : UInt8) (h : j < l.length) (x : BitVec 32) : Crc.reg x (l.set j (l[j] ^^^ c)) = Crc.reg x l ^^^ Crc.steps (8 * (l.length - j)) (Crc.ext c) := by
 induction l generalizing j x with
 | nil => simp at h
 | cons d l ih =>
  cases j with
  | zero =>
   rw [List.set_cons_zero, Crc.reg_cons, Crc.reg_cons, List.getElem_cons_zero, ext_xor, ← BitVec.xor_assoc, Crc.steps_xor, Crc.reg_xor, ← Crc.steps_add]
   congr 2; simp; omega
  | succ j =>
   rw [List.set_cons_succ, Crc.reg_cons, Crc.reg_cons]
   have := ih j (by simpa using h) (Crc.steps 8 (x ^^^ Crc.ext d))
   rw [List.getElem_cons_succ, this]; simp
theorem crc_set (l : List UInt8) (j : Nat) (c : UInt8) (h : j < l.length) : Crc.crc (l.set j (l[j] ^^^ c)) = Crc.crc l ^^^ Crc.steps (8 * (l.length - j)) (Crc.ext c) := by
 unfold Crc.crc
 rw [reg_set l j c h, Crc.not_xor, BitVec.xor_comm]
end Go.Proofs.YtplbgehpohdmdaaGreatDoor
