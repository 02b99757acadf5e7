/- finder: powers, degrees. -/
import Derived.Test.YtbinlkobmlebpaaFd34x
set_option linter.unusedSimpArgs false
set_option linter.unusedVariables false
namespace Go.Proofs.Ytbinlkobmlebpaa
open Go.RowKit Sym
open Fi
theorem degree_ret (gen : Nat) (w : World) (hg : 1 ≤ gen ∧ gen < 1048576) :
  Ret Try.prog 96 #[i64 gen] w fun v w' => ∃ d : Nat, v = i64 d ∧ 2 ^ d ≤ gen ∧ Ext w w' := by
 have hM := M.start w
 refine enter Try.func96 rfl (by kernel_rfl) Try.ntmps96 rfl ?_
 refine C.seq <| C.region <| E.asg rfl rfl <| E.nil <| X.next <| C.seq <| C.region <| E.asg rfl rfl <| E.nil <| X.next <| C.seq <| C.block <| ?_

 refine C.loop2 [] rfl (fun (g : Nat) (d : Nat) => [(0, i64 g), (3, i64 d)]) (fun (g : Nat) (d : Nat) w' => M w (Nn) w' [] ∧ 1 ≤ g ∧ g * 2 ^ d ≤ gen) (fun (g : Nat) (d : Nat) => g) gen 0 ?_ ?_ ?_
 · exact Sub.cons rfl <| Sub.cons rfl <| Sub.nil _
 · exact ⟨hM, hg.1, by omega⟩
 rintro g d w0 ⟨hM, h1, h2⟩
 refine C.seq <| C.seq <| C.region <| E.mv rfl rfl <| E.bin rfl rfl rfl rfl <| E.nil <| X.next <| ?_
 refine C.cond' rfl (fun hC0 => ?_) (fun hC0 => ?_)
 ·
  have hd : d < gen := by
   have h3 : d < 2 ^ d := Nat.lt_two_pow_self
   have h4 : 1 * 2 ^ d ≤ g * 2 ^ d := Nat.mul_le_mul_right _ h1
   omega
  have h5 : g / 2 * 2 ^ (d + 1) ≤ gen := by
   have h6 : g / 2 * 2 * 2 ^ d ≤ g * 2 ^ d := Nat.mul_le_mul_right _ (by omega)
   rw [Nat.pow_succ, Nat.mul_comm (2 ^ d) 2, ← Nat.mul_assoc]; omega
  have hgl : g ≤ gen := Nat.le_trans (Nat.le_mul_of_pos_right g (Nat.two_pow_pos d)) h2
  refine C.skip <| X.next <| C.block <| C.seq <| C.region <| E.mv rfl rfl <| ?_
  refine E.quo rfl rfl (by omega) (quoN (a := g) (b := 2) (by omega) (by omega)) rfl ?_
  refine E.asg rfl rfl <| E.nil <| X.next <| C.region <| E.mv rfl rfl <| ?_
  refine E.addN (a := d) (b := 1) rfl rfl (by omega) rfl ?_

  refine E.asg rfl rfl <| E.nil <| X.outN <| X.again2 (g / 2) (d + 1) (Sub.cons rfl <| Sub.cons rfl <| Sub.nil _) rfl ⟨hM, by omega, h5⟩ (by omega)
 ·
  obtain rfl : g = 1 := by omega
  refine C.exit <| X.exitT <| X.exitT <| X.outE <| X.next <| C.seq <| C.region <| E.mv rfl rfl <| E.asg rfl rfl <| E.nil <| X.next <| C.ret <| ret1 rfl rfl ?_
  exact ⟨d, rfl, by omega, hM.toExt⟩
theorem power_ret (n : Nat) (w : World) (hn : n ≤ 40) :
  Ret Try.prog 95 #[i64 n] w fun v w' => v = i64 ((2 ^ n : Nat) : Int) ∧ Ext w w' := by
 have hM := M.start w
 refine enter Try.func95 rfl (by kernel_rfl) Try.ntmps95 rfl ?_
 refine C.seq <| C.region <| E.asg rfl rfl <| E.nil <| X.next <| C.seq <| C.region <| E.asg rfl rfl <| E.nil <| X.next <| C.seq <| C.seq <| C.region <| E.asg rfl rfl <| E.nil <| X.next <| C.block <| ?_

 refine C.loop1 [(0, _)] rfl (fun (i : Nat) => [(3, i64 ((2 ^ i : Nat) : Int)), (4, i64 i)]) (fun (i : Nat) w' => M w (Nn) w' [] ∧ i ≤ n) (fun (i : Nat) => n - i) 0 ?_ ?_ ?_
 · exact Sub.cons rfl <| Sub.cons rfl <| Sub.nil _
 · exact ⟨hM, Nat.zero_le _⟩
 rintro i w0 ⟨hM, hi⟩
 refine C.seq <| C.seq <| C.region <| E.mv rfl rfl <| E.mv rfl rfl <| E.bin rfl rfl rfl rfl <| E.nil <| X.next <| ?_
 refine C.cond' rfl (fun hC0 => ?_) (fun hC0 => ?_)
 ·
  have hpb : 2 ^ i ≤ 2 ^ 40 := Nat.pow_le_pow_right (by decide) (by omega)
  refine C.skip <| X.next <| C.seq <| C.block <| C.region <| E.mv rfl rfl <| ?_
  refine E.mulN (a := 2) (b := 2 ^ i) rfl rfl (by omega) rfl ?_
  rw [show 2 * 2 ^ i = 2 ^ (i + 1) by rw [Nat.pow_succ, Nat.mul_comm]]
  refine E.asg rfl rfl <| E.nil <| X.outN <| X.next <| C.region <| E.mv rfl rfl <| ?_
  refine E.addN (a := i) (b := 1) rfl rfl (by omega) rfl ?_

  refine E.asg rfl rfl <| E.nil <| X.again1 (i + 1) (Sub.cons rfl <| Sub.cons rfl <| Sub.nil _) rfl ⟨hM, by omega⟩ (by omega)
 ·
  obtain rfl : i = n := by omega
  refine C.exit <| X.exitT <| X.exitT <| X.outE <| X.next <| C.seq <| C.region <| E.mv rfl rfl <| E.asg rfl rfl <| E.nil <| X.next <| C.ret <| ret1 rfl rfl ?_
  exact ⟨rfl, hM.toExt⟩
end Go.Proofs.Ytbinlkobmlebpaa
