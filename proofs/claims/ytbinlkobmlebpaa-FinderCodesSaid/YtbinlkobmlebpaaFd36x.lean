/- finder: remainders. -/
import Derived.Test.Ytbinlkobmlebpaax0
import Derived.Test.YtbinlkobmlebpaaBasex
import Derived.Test.YtbinlkobmlebpaaFd35x
set_option linter.unusedSimpArgs false
set_option linter.unusedVariables false
namespace Go.Proofs.Ytbinlkobmlebpaa
open Go.RowKit Sym
open Fi
theorem remN {a b : Nat} : (a : Int).tmod (b : Int) = ((a % b : Nat) : Int) := by rw [Int.tmod_eq_emod_of_nonneg (by omega)]; simp
theorem xor_n {a b : Nat} (ha : a < 2199023255552) (hb : b < 2199023255552) : bits .xor .i64 (a : Int) (b : Int) = ((a ^^^ b : Nat) : Int) ∧ a ^^^ b < 2199023255552 := ⟨i64_xor_nat a b (by omega) (by omega), Nat.xor_lt_two_pow (n := 41) ha hb⟩
set_option maxHeartbeats 1000000 in
theorem remainder_ret (p gen : Nat) (w : World) (hp : p < 2199023255552) (hg : 1 ≤ gen ∧ gen < 2048) :
  Ret Try.prog 97 #[i64 p, i64 gen] w fun v w' => ∃ r : Nat, v = i64 r ∧ r < 2199023255552 ∧ Ext w w' := by
 have hM := M.start w
 refine enter Try.func97 rfl (by kernel_rfl) Try.ntmps97 rfl ?_
 refine C.seq <| C.region <| E.asg rfl rfl <| E.nil <| X.next <| C.seq <| C.region <| E.mv rfl rfl <| ?_
 refine E.call rfl rfl (degree_ret gen _ ⟨hg.1, by omega⟩) ?_
 rintro _ w0 ⟨d, rfl, hd, x0⟩
 have hM := hM.ext x0
 have hd2 : d < gen := by
  have h3 : d < 2 ^ d := Nat.lt_two_pow_self
  omega
 try dsimp only [Za, Zb, Zc, Zd, repl] at hM
 refine E.asg rfl rfl <| E.nil <| X.next <| C.seq <| C.seq <| C.region <| E.asg rfl rfl <| E.nil <| X.next <| C.block <| ?_

 refine C.loop2 [(1, _), (5, _)] rfl (fun (k : Nat) (p : Nat) => [(0, i64 p), (6, i64 ((k : Int) - 1))]) (fun (k : Nat) (p : Nat) w' => M w (Nn) w' [] ∧ k ≤ 31 ∧ p < 2199023255552) (fun (k : Nat) (p : Nat) => k) 31 p ?_ ?_ ?_
 · exact Sub.cons rfl <| Sub.cons rfl <| Sub.nil _
 · exact ⟨hM, Nat.le_refl _, hp⟩
 rintro k p w1 ⟨hM, hk, hpb⟩
 refine C.seq <| C.seq <| C.region <| E.mv rfl rfl <| E.mv rfl rfl <| E.bin rfl rfl rfl rfl <| E.nil <| X.next <| ?_
 refine C.cond' rfl (fun hC0 => ?_) (fun hC0 => ?_)
 ·
  obtain ⟨i, rfl⟩ : ∃ i, k = i + 1 := ⟨k - 1, by omega⟩
  have hii : ((i + 1 : Nat) : Int) - 1 = (i : Int) := by omega
  rw [hii]
  have hdi : d ≤ i := by omega
  have hpi : 1 ≤ 2 ^ i := Nat.one_le_two_pow
  have hpj : 2 ^ (i - d) ≤ 2 ^ 30 := Nat.pow_le_pow_right (by decide) (by omega)
  have hgm : gen * 2 ^ (i - d) ≤ 2047 * 2 ^ 30 := Nat.mul_le_mul (by omega) hpj
  refine C.skip <| X.next <| ?_

  refine C.cut1 [(1, _), (5, _), (6, _)] rfl (fun (q : Nat) => [(0, i64 q)]) (fun (q : Nat) w' => M w (Nn) w' [] ∧ q < 2199023255552) ?_ ?_
  ·
   refine C.block <| C.seq <| C.region <| E.mv rfl rfl <| E.mv rfl rfl <| ?_
   refine E.call rfl rfl (power_ret i _ (by omega)) ?_
   rintro _ w2 ⟨rfl, x2⟩
   have hM := hM.ext x2
   try dsimp only [Za, Zb, Zc, Zd, repl] at hM
   refine E.quo rfl rfl (by omega) (quoN (a := p) (b := 2 ^ i) (by omega) (by omega)) rfl ?_
   refine E.rem rfl rfl (by omega) (remN (a := p / 2 ^ i) (b := 2)) rfl ?_
   refine E.bin rfl rfl rfl rfl <| E.nil <| X.next <| ?_
   refine C.cond' rfl (fun hC1 => ?_) (fun hC1 => ?_)
   ·
    refine C.region <| E.mv rfl rfl <| E.mv rfl rfl <| E.mv rfl rfl <| E.mv rfl rfl <| ?_
    refine E.subN (a := i) (b := d) rfl rfl (by omega) rfl ?_
    refine E.call rfl rfl (power_ret (i - d) _ (by omega)) ?_
    rintro _ w3 ⟨rfl, x3⟩
    have hM := hM.ext x3
    try dsimp only [Za, Zb, Zc, Zd, repl] at hM
    refine E.mulN (a := gen) (b := 2 ^ (i - d)) rfl rfl (by omega) rfl ?_
    have hx := xor_n hpb (show gen * 2 ^ (i - d) < 2199023255552 by omega)
    refine E.binw rfl rfl rfl (congrArg _ hx.1) rfl ?_

    refine E.asg rfl rfl <| E.nil <| X.outN <| X.join1 (p ^^^ gen * 2 ^ (i - d)) (Sub.cons rfl <| Sub.nil _) rfl ⟨hM, hx.2⟩
   ·

    refine C.skip <| X.outN <| X.join1 p (Sub.cons rfl <| Sub.nil _) rfl ⟨hM, hpb⟩
  rintro q w4 ⟨hM, hqb⟩
  refine C.region <| E.mv rfl rfl <| ?_
  refine E.sub' rfl rfl (by omega) rfl ?_

  refine E.asg rfl rfl <| E.nil <| X.again2 i q (Sub.cons rfl <| Sub.cons rfl <| Sub.nil _) rfl ⟨hM, by omega, hqb⟩ (by omega)
 ·
  refine C.exit <| X.exitT <| X.exitT <| X.outE <| X.next <| C.seq <| C.region <| E.mv rfl rfl <| E.asg rfl rfl <| E.nil <| X.next <| C.ret <| ret1 rfl rfl ?_
  exact ⟨p, rfl, hpb, hM.toExt⟩
end Go.Proofs.Ytbinlkobmlebpaa
