/- law 38: Parts. -/
import Derived.Test.YtnnmebpahickhaaLpM
namespace Go.Proofs.Ytnnmebpahickhaa
set_option linter.unusedSimpArgs false
set_option linter.unusedVariables false
open Go.RowKit Sym Uf

set_option maxHeartbeats 1000000 in
theorem sides_ret (b : Bl) (x y : Int) (w : World) (hb : b.small) :
    Ret Try.prog 25 #[.agg #[i64 b.x, i64 b.y, i64 b.w, i64 b.h], i64 x, i64 y] w fun v w' => v = i64 ((sd b x y : Nat) : Int) ∧ Ext w w' := by
  obtain ⟨s1, s2, s3, s4, s5, s6, s7, s8, s9, s10⟩ := hb
  have hM := M.start w
  refine enter Try.func25 rfl (by kernel_rfl) Try.ntmps25 rfl ?_
  refine C.seq <| C.region <| ?_
  refine E.boxM hM rfl rfl rfl ?_
  intro b3 w0 hM
  try dsimp only [List.nil_append, List.cons_append, List.set_cons_zero, List.set_cons_succ, repl] at hM
  refine E.asg rfl rfl <| E.nil <| X.next <| C.seq <| C.region <| E.asg rfl rfl <| E.nil <| X.next <| ?_

  refine C.cut0 [(1, _), (2, _), (3, _)] rfl [(7, i64 (((0 ||| if x = b.x then 1 else 0) : Nat) : Int))] (fun w' => M w (Nn) w' [Rg.blk b3 34 [i64 b.x, i64 b.y, i64 b.w, i64 b.h]]) ?_ ?_
  ·
    refine C.seq <| C.region <| E.mv rfl rfl <| ?_
    refine E.fld (o := 0) (sz := 0) rfl Try.underlying34 rfl rfl (by kernel_rfl) rfl ?_
    refine E.load rfl Try.underlying3 rfl (by first | exact hM.bcell 0 rfl rfl | exact hM.bcell 1 rfl rfl | exact hM.bcell 2 rfl rfl | exact hM.bcell 3 rfl rfl | exact hM.bcell 4 rfl rfl | exact hM.bcell 5 rfl rfl | exact hM.bcell 6 rfl rfl | exact hM.bcell 7 rfl rfl) rfl ?_
    refine E.bin rfl rfl rfl rfl <| E.nil <| X.next <| ?_
    refine C.cond' rfl (fun hC0 => ?_) (fun hC0 => ?_)
    ·
      refine C.region <| E.mv rfl rfl <| E.bin rfl rfl rfl rfl <| E.asg rfl rfl <| E.nil <| ?_
      rw [if_pos hC0]

      refine X.join0  (Sub.cons rfl <| Sub.nil _) rfl hM
    ·
      refine C.skip <| ?_
      rw [if_neg hC0]

      refine X.join0  (Sub.cons rfl <| Sub.nil _) rfl hM
  rintro  w1 hM
  have q1 : (0 ||| if x = b.x then 1 else 0) < 16 := by split <;> decide

  refine C.cut0 [(1, _), (2, _), (3, _)] rfl [(7, i64 ((((0 ||| if x = b.x then 1 else 0) ||| if y = b.y then 2 else 0) : Nat) : Int))] (fun w' => M w (Nn) w' [Rg.blk b3 34 [i64 b.x, i64 b.y, i64 b.w, i64 b.h]]) ?_ ?_
  ·
    refine C.seq <| C.region <| E.mv rfl rfl <| ?_
    refine E.fld (o := 1) (sz := 0) rfl Try.underlying34 rfl rfl (by kernel_rfl) rfl ?_
    refine E.load rfl Try.underlying3 rfl (by first | exact hM.bcell 0 rfl rfl | exact hM.bcell 1 rfl rfl | exact hM.bcell 2 rfl rfl | exact hM.bcell 3 rfl rfl | exact hM.bcell 4 rfl rfl | exact hM.bcell 5 rfl rfl | exact hM.bcell 6 rfl rfl | exact hM.bcell 7 rfl rfl) rfl ?_
    refine E.bin rfl rfl rfl rfl <| E.nil <| X.next <| ?_
    refine C.cond' rfl (fun hC1 => ?_) (fun hC1 => ?_)
    ·
      refine C.region <| E.mv rfl rfl <| ?_
      refine E.binw rfl rfl rfl (congrArg (Value.int .i64) (bits_or16 _ q1 2 (by decide))) rfl ?_
      refine E.asg rfl rfl <| E.nil <| ?_
      rw [if_pos hC1]

      refine X.join0  (Sub.cons rfl <| Sub.nil _) rfl hM
    ·
      refine C.skip <| ?_
      rw [if_neg hC1, Nat.or_zero]

      refine X.join0  (Sub.cons rfl <| Sub.nil _) rfl hM
  rintro  w2 hM
  have q2 : ((0 ||| if x = b.x then 1 else 0) ||| if y = b.y then 2 else 0) < 16 := by split <;> split <;> decide

  refine C.cut0 [(2, _), (3, _)] rfl [(7, i64 (((((0 ||| if x = b.x then 1 else 0) ||| if y = b.y then 2 else 0) ||| if x = b.x + b.w - 1 then 4 else 0) : Nat) : Int))] (fun w' => M w (Nn) w' [Rg.blk b3 34 [i64 b.x, i64 b.y, i64 b.w, i64 b.h]]) ?_ ?_
  ·
    refine C.seq <| C.region <| E.mv rfl rfl <| ?_
    refine E.fld (o := 0) (sz := 0) rfl Try.underlying34 rfl rfl (by kernel_rfl) rfl ?_
    refine E.load rfl Try.underlying3 rfl (by first | exact hM.bcell 0 rfl rfl | exact hM.bcell 1 rfl rfl | exact hM.bcell 2 rfl rfl | exact hM.bcell 3 rfl rfl | exact hM.bcell 4 rfl rfl | exact hM.bcell 5 rfl rfl | exact hM.bcell 6 rfl rfl | exact hM.bcell 7 rfl rfl) rfl ?_
    refine E.fld (o := 2) (sz := 0) rfl Try.underlying34 rfl rfl (by kernel_rfl) rfl ?_
    refine E.load rfl Try.underlying3 rfl (by first | exact hM.bcell 0 rfl rfl | exact hM.bcell 1 rfl rfl | exact hM.bcell 2 rfl rfl | exact hM.bcell 3 rfl rfl | exact hM.bcell 4 rfl rfl | exact hM.bcell 5 rfl rfl | exact hM.bcell 6 rfl rfl | exact hM.bcell 7 rfl rfl) rfl ?_
    refine E.add rfl rfl (by omega) rfl ?_
    refine E.sub' rfl rfl (by omega) rfl ?_
    refine E.bin rfl rfl rfl rfl <| E.nil <| X.next <| ?_
    refine C.cond' rfl (fun hC2 => ?_) (fun hC2 => ?_)
    ·
      refine C.region <| E.mv rfl rfl <| ?_
      refine E.binw rfl rfl rfl (congrArg (Value.int .i64) (bits_or16 _ q2 4 (by decide))) rfl ?_
      refine E.asg rfl rfl <| E.nil <| ?_
      rw [if_pos hC2]

      refine X.join0  (Sub.cons rfl <| Sub.nil _) rfl hM
    ·
      refine C.skip <| ?_
      rw [if_neg hC2, Nat.or_zero]

      refine X.join0  (Sub.cons rfl <| Sub.nil _) rfl hM
  rintro  w3 hM
  have q3 : (((0 ||| if x = b.x then 1 else 0) ||| if y = b.y then 2 else 0) ||| if x = b.x + b.w - 1 then 4 else 0) < 16 := by split <;> split <;> split <;> decide

  refine C.cut0 [] rfl [(7, i64 ((((((0 ||| if x = b.x then 1 else 0) ||| if y = b.y then 2 else 0) ||| if x = b.x + b.w - 1 then 4 else 0) ||| if y = b.y + b.h - 1 then 8 else 0) : Nat) : Int))] (fun w' => M w (Nn) w' [Rg.blk b3 34 [i64 b.x, i64 b.y, i64 b.w, i64 b.h]]) ?_ ?_
  ·
    refine C.seq <| C.region <| E.mv rfl rfl <| ?_
    refine E.fld (o := 1) (sz := 0) rfl Try.underlying34 rfl rfl (by kernel_rfl) rfl ?_
    refine E.load rfl Try.underlying3 rfl (by first | exact hM.bcell 0 rfl rfl | exact hM.bcell 1 rfl rfl | exact hM.bcell 2 rfl rfl | exact hM.bcell 3 rfl rfl | exact hM.bcell 4 rfl rfl | exact hM.bcell 5 rfl rfl | exact hM.bcell 6 rfl rfl | exact hM.bcell 7 rfl rfl) rfl ?_
    refine E.fld (o := 3) (sz := 0) rfl Try.underlying34 rfl rfl (by kernel_rfl) rfl ?_
    refine E.load rfl Try.underlying3 rfl (by first | exact hM.bcell 0 rfl rfl | exact hM.bcell 1 rfl rfl | exact hM.bcell 2 rfl rfl | exact hM.bcell 3 rfl rfl | exact hM.bcell 4 rfl rfl | exact hM.bcell 5 rfl rfl | exact hM.bcell 6 rfl rfl | exact hM.bcell 7 rfl rfl) rfl ?_
    refine E.add rfl rfl (by omega) rfl ?_
    refine E.sub' rfl rfl (by omega) rfl ?_
    refine E.bin rfl rfl rfl rfl <| E.nil <| X.next <| ?_
    refine C.cond' rfl (fun hC3 => ?_) (fun hC3 => ?_)
    ·
      refine C.region <| E.mv rfl rfl <| ?_
      refine E.binw rfl rfl rfl (congrArg (Value.int .i64) (bits_or16 _ q3 8 (by decide))) rfl ?_
      refine E.asg rfl rfl <| E.nil <| ?_
      rw [if_pos hC3]

      refine X.join0  (Sub.cons rfl <| Sub.nil _) rfl hM
    ·
      refine C.skip <| ?_
      rw [if_neg hC3, Nat.or_zero]

      refine X.join0  (Sub.cons rfl <| Sub.nil _) rfl hM
  rintro  w4 hM
  refine C.seq <| C.region <| E.mv rfl rfl <| E.asg rfl rfl <| E.nil <| X.next <| C.ret <| ret1 rfl rfl ?_
  exact ⟨rfl, hM.toExt⟩

end Go.Proofs.Ytnnmebpahickhaa
