/- finder: the format information. -/
import Derived.Test.Ytbinlkobmlebpaax0
import Derived.Test.YtbinlkobmlebpaaFd36x
set_option linter.unusedSimpArgs false
set_option linter.unusedVariables false
namespace Go.Proofs.Ytbinlkobmlebpaa
open Go.RowKit Sym
open Fi
theorem codeword_ret (x : Nat) (w : World) (hx : x ≤ 31) :
  Ret Try.prog 76 #[i64 x, i64 1335] w fun v w' => ∃ r : Nat, v = i64 r ∧ r < 4398046511104 ∧ Ext w w' := by
 have hM := M.start w
 refine enter Try.func76 rfl (by kernel_rfl) Try.ntmps76 rfl ?_
 refine C.seq <| C.region <| E.asg rfl rfl <| E.nil <| X.next <| C.seq <| C.region <| E.mv rfl rfl <| E.mv rfl rfl <| ?_
 refine E.call rfl rfl (degree_ret 1335 _ (by decide)) ?_
 rintro _ w0 ⟨d, rfl, hd, x0⟩
 have hM := hM.ext x0
 have hd2 : d ≤ 40 := by
  have h3 : d < 2 ^ d := Nat.lt_two_pow_self
  refine Decidable.byContradiction fun q => ?_
  have h4 : 2 ^ 41 ≤ 2 ^ d := Nat.pow_le_pow_right (by decide) (by omega)
  omega
 have hxm : x * 2 ^ d ≤ 31 * 1335 := Nat.mul_le_mul hx hd
 try dsimp only [Za, Zb, Zc, Zd, repl] at hM
 refine E.call rfl rfl (power_ret d _ hd2) ?_
 rintro _ w1 ⟨rfl, x1⟩
 have hM := hM.ext x1
 try dsimp only [Za, Zb, Zc, Zd, repl] at hM
 refine E.mulN (a := x) (b := 2 ^ d) rfl rfl (by omega) rfl ?_
 refine E.asg rfl rfl <| E.nil <| X.next <| C.seq <| C.region <| E.mv rfl rfl <| E.mv rfl rfl <| E.mv rfl rfl <| ?_
 refine E.call rfl rfl (remainder_ret (x * 2 ^ d) 1335 _ (by omega) (by decide)) ?_
 rintro _ w2 ⟨r, rfl, hr, x2⟩
 have hM := hM.ext x2
 try dsimp only [Za, Zb, Zc, Zd, repl] at hM
 refine E.addN (a := x * 2 ^ d) (b := r) rfl rfl (by omega) rfl ?_
 refine E.asg rfl rfl <| E.nil <| X.next <| C.ret <| ret1 rfl rfl ?_
 exact ⟨_, rfl, by omega, hM.toExt⟩
theorem format_ret (lv : Int) (w : World) :
  Ret Try.prog 57 #[i64 lv, i64 3] w fun v w' => ∃ (q : Nat) (e : Int), v = .tuple #[i64 q, i64 e] ∧ q < 9223372036854775808 ∧ Ext w w' := by
 have hM := M.start w
 refine enter Try.func57 rfl (by kernel_rfl) Try.ntmps57 rfl ?_
 refine C.seq <| C.region <| E.asg rfl rfl <| E.asg rfl rfl <| E.nil <| X.next <| C.seq <| C.region <| E.asg rfl rfl <| E.nil <| X.next <| ?_

 refine C.cut1 [(1, _)] rfl (fun (b : Nat) => [(6, i64 b)]) (fun (b : Nat) w' => M w (Nn) w' [] ∧ b ≤ 3) ?_ ?_
 ·
  refine C.seq <| C.region <| E.mv rfl rfl <| E.nil <| X.next <| C.block <| C.seq <| C.region <| E.bin rfl rfl rfl rfl <| E.asg rfl rfl <| E.nil <| X.next <| ?_
  refine C.cond rfl (fun hC0 => ?_) (fun hC0 => ?_)
  ·

   refine C.region <| E.asg rfl rfl <| E.nil <| X.outN <| X.join1 1 (Sub.cons rfl <| Sub.nil _) rfl ⟨hM, by omega⟩
  ·
   refine C.seq <| C.region <| E.bin rfl rfl rfl rfl <| E.asg rfl rfl <| E.nil <| X.next <| ?_
   refine C.cond rfl (fun hC1 => ?_) (fun hC1 => ?_)
   ·

    refine C.region <| E.asg rfl rfl <| E.nil <| X.outN <| X.join1 0 (Sub.cons rfl <| Sub.nil _) rfl ⟨hM, by omega⟩
   ·
    refine C.seq <| C.region <| E.bin rfl rfl rfl rfl <| E.asg rfl rfl <| E.nil <| X.next <| ?_
    refine C.cond rfl (fun hC2 => ?_) (fun hC2 => ?_)
    ·

     refine C.region <| E.asg rfl rfl <| E.nil <| X.outN <| X.join1 3 (Sub.cons rfl <| Sub.nil _) rfl ⟨hM, by omega⟩
    ·
     refine C.seq <| C.region <| E.bin rfl rfl rfl rfl <| E.asg rfl rfl <| E.nil <| X.next <| ?_
     refine C.cond rfl (fun hC3 => ?_) (fun hC3 => ?_)
     ·

      refine C.region <| E.asg rfl rfl <| E.nil <| X.outN <| X.join1 2 (Sub.cons rfl <| Sub.nil _) rfl ⟨hM, by omega⟩
     ·
      refine C.seq <| C.region <| E.asg rfl rfl <| E.asg rfl rfl <| E.nil <| X.next <| C.ret <| X.retB <| X.retT <| ret2 rfl rfl rfl ?_
      exact ⟨0, _, rfl, by decide, hM.toExt⟩
 rintro b w0 ⟨hM, hb⟩
 refine C.seq <| ?_

 refine C.chainE [(1, _), (6, _)] rfl [(21, .bool (decide False))] ?_ ?_
 ·
  refine C.region <| E.mv rfl rfl <| E.bin rfl rfl rfl rfl <| E.mv rfl rfl <| ?_
  refine E.split 18 rfl (fun g18 => ?_) (fun g18 => ?_)
  ·
   try simp only [Ya, Yb, Yc, Yd, Ye, Yf] at g18
   refine E.off rfl rfl rfl rfl <| E.off rfl rfl rfl rfl <| E.pick rfl rfl rfl <| E.nil <| X.join0 (Sub.cons (look_eq rfl (congrArg Value.bool (by (exfalso; omega)))) <| Sub.nil _) rfl rfl
  ·
   try simp only [Ya, Yb, Yc, Yd, Ye, Yf] at g18
   refine E.on rfl rfl (E.mv rfl rfl ?_)
   refine E.on rfl rfl (E.bin rfl rfl rfl rfl ?_)
   refine E.pick rfl rfl rfl <| E.nil <| X.join0 (Sub.cons (look_eq rfl (congrArg Value.bool (by rfl))) <| Sub.nil _) rfl rfl
 refine C.cond' rfl (fun hC4 => ?_) (fun hC4 => ?_)
 ·
  cases hC4
 ·
  refine C.skip <| X.next <| C.seq <| C.region <| E.mv rfl rfl <| ?_
  refine E.mulN (a := 8) (b := b) rfl rfl (by omega) rfl ?_
  refine E.mv rfl rfl <| ?_
  refine E.addN (a := 8 * b) (b := 3) rfl rfl (by omega) rfl ?_
  refine E.call rfl rfl (codeword_ret (8 * b + 3) _ (by omega)) ?_
  rintro _ w1 ⟨r, rfl, hr, x1⟩
  have hM := hM.ext x1
  try dsimp only [Za, Zb, Zc, Zd, repl] at hM
  refine E.binw rfl rfl rfl (congrArg _ (i64_xor_nat r 21522 (by omega) (by decide))) rfl ?_
  refine E.asg rfl rfl <| E.asg rfl rfl <| E.nil <| X.next <| C.ret <| ret2 rfl rfl rfl ?_
  exact ⟨_, _, rfl, Nat.xor_lt_two_pow (n := 63) (by omega) (by decide), hM.toExt⟩
end Go.Proofs.Ytbinlkobmlebpaa
