/- The law ChecksumAssociative: its walk. -/
import Derived.Test.YtmekdfkcjhgkdaaEx06
import Derived.Test.YtmekdfkcjhgkdaaSymQ
import Derived.Test.YtmekdfkcjhgkdaaCrcMore
import Derived.Test.YtmekdfkcjhgkdaaFrame
namespace Go.Proofs.Ytmekdfkcjhgkdaa
open Go.RowKit Sym

theorem comb_nat (a b : BitVec 32) (n : Nat) : combV a b (n : Int) = .tuple #[u32 (Crc.steps (8 * n) a ^^^ b), i64 0] := by
  rw [combV, if_neg (by omega)]; rfl
theorem comb_assoc (a b c : BitVec 32) (i k : Nat) : ((Crc.steps (8 * k) (Crc.steps (8 * i) a ^^^ b) ^^^ c).toNat : Int) = ((Crc.steps (8 * (i + k)) a ^^^ (Crc.steps (8 * k) b ^^^ c)).toNat : Int) := by
  rw [Crc.steps_xor, ← Crc.steps_add, BitVec.xor_assoc, Nat.mul_add]
theorem ChecksumAssociative_ret (a b c : BitVec 32) (n m : BitVec 32) (w : World) :
    Ret Try.prog 8 #[.agg #[u32 a, u32 b, u32 c], u32 n, u32 m] w fun v w' => v = .bool true ∧ Ext w w' := by
  have hn := lt32 n
  have hm := lt32 m
  refine enter Try.func8 rfl (by kernel_rfl) Try.ntmps8 rfl ?_
  refine C.seq <| C.region <| ?_
  refine E.box rfl rfl ?_
  have hb : Blk (w.alloc (.cells #[u32 a, u32 b, u32 c] 34)) w.heap.size 34 #[u32 a, u32 b, u32 c] := Blk.new w _ _
  have hx : Ext w (w.alloc (.cells #[u32 a, u32 b, u32 c] 34)) := Ext.new w _
  revert hb hx
  change _ → _ → wpE _ _ _ _ _ _ (w.alloc (.cells #[u32 a, u32 b, u32 c] 34))
  generalize w.alloc (.cells #[u32 a, u32 b, u32 c] 34) = w1
  generalize w.heap.size = B
  intro hb hx
  refine E.asg rfl rfl <| E.nil <| X.next <| C.seq <| C.region <| E.mv rfl rfl <| ?_
  refine E.rem rfl rfl (by omega) (IntWalk.rem_in _ _ (by omega)) rfl ?_
  refine E.conv rfl Try.underlying23 Try.underlying3 (IntWalk.i64_in _ (by omega)) rfl ?_
  refine E.mv rfl rfl <| ?_
  refine E.rem rfl rfl (by omega) (IntWalk.rem_in _ _ (by omega)) rfl ?_
  refine E.conv rfl Try.underlying23 Try.underlying3 (IntWalk.i64_in _ (by omega)) rfl ?_
  obtain ⟨i, hi⟩ : ∃ i : Nat, (n.toNat : Int) % 2147483648 = i := ⟨n.toNat % 2147483648, by omega⟩
  obtain ⟨k, hk⟩ : ∃ i : Nat, (m.toNat : Int) % 2147483648 = i := ⟨m.toNat % 2147483648, by omega⟩
  rw [hi, hk]
  have hi2 : i < 2147483648 := by omega
  have hk2 : k < 2147483648 := by omega
  clear hi hk
  refine E.asg rfl rfl <| E.asg rfl rfl <| E.nil <| X.next <| C.seq <| C.region <| ?_
  refine E.idxA (sz := 1) rfl rfl Try.underlying34 (by kernel_rfl) (by omega) (by omega) rfl ?_
  refine E.load rfl Try.underlying23 rfl (hb.cell 0) rfl ?_
  refine E.idxA (sz := 1) rfl rfl Try.underlying34 (by kernel_rfl) (by omega) (by omega) rfl ?_
  refine E.load rfl Try.underlying23 rfl (hb.cell 1) rfl ?_
  refine E.mv rfl rfl <| ?_
  refine E.call rfl rfl (Combine_ret a b (i : Int) _ (by omega)) ?_
  rintro _ _ ⟨rfl, rfl⟩
  rw [comb_nat]
  refine E.mv rfl rfl <| E.ext rfl rfl rfl <| E.ext rfl rfl rfl <| E.asg rfl rfl <| E.asg rfl rfl <| E.nil <| X.next <| C.seq <| C.region <| E.mv rfl rfl <| ?_
  refine E.idxA (sz := 1) rfl rfl Try.underlying34 (by kernel_rfl) (by omega) (by omega) rfl ?_
  refine E.load rfl Try.underlying23 rfl (hb.cell 2) rfl ?_
  refine E.mv rfl rfl <| ?_
  refine E.call rfl rfl (Combine_ret _ c (k : Int) _ (by omega)) ?_
  rintro _ _ ⟨rfl, rfl⟩
  rw [comb_nat]
  refine E.mv rfl rfl <| E.ext rfl rfl rfl <| E.ext rfl rfl rfl <| E.asg rfl rfl <| E.asg rfl rfl <| E.nil <| X.next <| C.seq <| C.region <| ?_
  refine E.idxA (sz := 1) rfl rfl Try.underlying34 (by kernel_rfl) (by omega) (by omega) rfl ?_
  refine E.load rfl Try.underlying23 rfl (hb.cell 1) rfl ?_
  refine E.idxA (sz := 1) rfl rfl Try.underlying34 (by kernel_rfl) (by omega) (by omega) rfl ?_
  refine E.load rfl Try.underlying23 rfl (hb.cell 2) rfl ?_
  refine E.mv rfl rfl <| ?_
  refine E.call rfl rfl (Combine_ret b c (k : Int) _ (by omega)) ?_
  rintro _ _ ⟨rfl, rfl⟩
  rw [comb_nat]
  refine E.mv rfl rfl <| E.ext rfl rfl rfl <| E.ext rfl rfl rfl <| E.asg rfl rfl <| E.asg rfl rfl <| E.nil <| X.next <| C.seq <| C.region <| ?_
  refine E.idxA (sz := 1) rfl rfl Try.underlying34 (by kernel_rfl) (by omega) (by omega) rfl ?_
  refine E.load rfl Try.underlying23 rfl (hb.cell 0) rfl ?_
  refine E.mv rfl rfl <| E.mv rfl rfl <| E.mv rfl rfl <| ?_
  refine E.add rfl rfl (by omega) rfl ?_
  refine E.call rfl rfl (Combine_ret a _ ((i + k : Nat) : Int) _ (by omega)) ?_
  rintro _ _ ⟨rfl, rfl⟩
  rw [comb_nat]
  refine E.mv rfl rfl <| E.ext rfl rfl rfl <| E.ext rfl rfl rfl <| E.asg rfl rfl <| E.asg rfl rfl <| E.nil <| X.next <| C.seq <| C.region <| E.mv rfl rfl <| E.bin rfl rfl rfl rfl <| E.mv rfl rfl <| ?_
  refine E.on rfl rfl (E.mv rfl rfl ?_)
  refine E.on rfl rfl (E.bin rfl rfl rfl rfl ?_)
  refine E.pick rfl rfl rfl <| E.mv rfl rfl <| ?_
  refine E.on rfl rfl (E.mv rfl rfl ?_)
  refine E.on rfl rfl (E.mv rfl rfl ?_)
  refine E.on rfl rfl (E.binw rfl rfl rfl (beqT (comb_assoc a b c i k)) rfl ?_)
  refine E.pick rfl rfl rfl <| E.mv rfl rfl <| ?_
  refine E.on rfl rfl (E.call rfl rfl (exampleHolds_ret _) ?_)
  rintro _ w6 ⟨rfl, hx6⟩
  refine E.pick rfl rfl rfl <| E.asg rfl rfl <| E.nil <| X.next <| C.ret <| ret1 rfl rfl ?_
  exact ⟨rfl, hx.trans hx6⟩
end Go.Proofs.Ytmekdfkcjhgkdaa
