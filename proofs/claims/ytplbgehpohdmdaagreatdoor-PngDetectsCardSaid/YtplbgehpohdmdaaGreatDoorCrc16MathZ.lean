/- Plain facts on the CRC-16 register: a step is linear and one-to-one; eight steps of a byte. No program in sight. -/
set_option linter.unusedSimpArgs false
set_option linter.unusedVariables false
namespace Go.Proofs.YtplbgehpohdmdaaGreatDoor.Crc16
def step (x : BitVec 16) : BitVec 16 := if x.getLsbD 15 then (x <<< 1) ^^^ 0x1021#16 else x <<< 1
def steps : Nat → BitVec 16 → BitVec 16
 | 0, x => x
 | n + 1, x => steps n (step x)
theorem shl_xor (x y : BitVec 16) (k : Nat) : (x ^^^ y) <<< k = (x <<< k) ^^^ (y <<< k) := by
 apply BitVec.eq_of_getLsbD_eq; intro i hi
 simp only [BitVec.getLsbD_xor, BitVec.getLsbD_shiftLeft, hi, decide_true, Bool.true_and]
 cases decide (i < k) <;> simp
theorem xor_swap (a b p : BitVec 16) : (a ^^^ p) ^^^ (b ^^^ p) = a ^^^ b := by
 apply BitVec.eq_of_getLsbD_eq; intro i hi
 simp only [BitVec.getLsbD_xor]
 cases a.getLsbD i <;> cases b.getLsbD i <;> cases p.getLsbD i <;> rfl
theorem step_xor (x y : BitVec 16) : step (x ^^^ y) = step x ^^^ step y := by
 unfold step
 rw [BitVec.getLsbD_xor, shl_xor]
 generalize x <<< 1 = a
 generalize y <<< 1 = b
 cases x.getLsbD 15 <;> cases y.getLsbD 15
 · rfl
 · show (a ^^^ b) ^^^ _ = a ^^^ (b ^^^ _); rw [BitVec.xor_assoc]
 · show (a ^^^ b) ^^^ _ = (a ^^^ _) ^^^ b; rw [BitVec.xor_assoc, BitVec.xor_assoc, BitVec.xor_comm b]
 · show a ^^^ b = (a ^^^ _) ^^^ (b ^^^ _); rw [xor_swap]
theorem step_zero : step 0#16 = 0#16 := by decide
def ext (c : UInt8) : BitVec 16 := BitVec.ofNat 16 (c.toNat * 256)
def reg (x : BitVec 16) (l : List UInt8) : BitVec 16 := l.foldl (fun x c => steps 8 (x ^^^ ext c)) x
end Go.Proofs.YtplbgehpohdmdaaGreatDoor.Crc16
