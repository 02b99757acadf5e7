/- Small facts that the walks want: numbers of 32 and 8 bits as bit vectors; a slice that reads as a list; worlds that only grew. No program in sight. -/
import Derived.WalkKit
import Derived.WalkSpells
import Derived.WalkLawsBesides
set_option linter.unusedSimpArgs false
set_option linter.unusedVariables false
namespace Go.Proofs.Ytbinlkobmlebpaa
open Go.RowKit
section bits
theorem wrap64_nat (r : Nat) (h : r < 9223372036854775808) : IntKind.i64.wrap (r : Int) = r := IntWalk.i64_in _ (by omega)
theorem ofInt_u64' (a : Nat) (ha : a < 9223372036854775808) : (BitVec.ofInt 64 (a : Int)).toNat = a := ofInt_u64 a (by omega)
theorem i64_xor_nat (a b : Nat) (ha : a < 9223372036854775808) (hb : b < 9223372036854775808) : bits .xor .i64 (a : Int) (b : Int) = ((a ^^^ b : Nat) : Int) := by
 show IntKind.i64.wrap (((BitVec.ofInt 64 (a : Int)) ^^^ (BitVec.ofInt 64 (b : Int))).toNat : Int) = _
 rw [BitVec.toNat_xor, ofInt_u64' a ha, ofInt_u64' b hb]
 exact wrap64_nat _ (Nat.xor_lt_two_pow (n := 63) ha hb)
end bits
end Go.Proofs.Ytbinlkobmlebpaa
