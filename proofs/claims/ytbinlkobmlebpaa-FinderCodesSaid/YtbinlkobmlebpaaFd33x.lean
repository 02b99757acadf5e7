/- finder: copies; the places of the format information. -/
import Derived.Test.Ytbinlkobmlebpaax0
import Derived.Test.YtbinlkobmlebpaaFd31x
set_option linter.unusedSimpArgs false
set_option linter.unusedVariables false
namespace Go.Proofs.Ytbinlkobmlebpaa
open Go.RowKit Sym
open Fi
set_option maxHeartbeats 1000000 in
theorem formatAt_ret (s c i : Int) (w : World) (hs : 21 ≤ s ∧ s ≤ 1000) (hc : c = 0 ∨ c = 1) (hi : 0 ≤ i ∧ i < 15) :
  Ret Try.prog 59 #[i64 s, i64 c, i64 i] w fun v w' => ∃ a b : Int, v = .agg #[i64 a, i64 b] ∧ (0 ≤ a ∧ a < s ∧ 0 ≤ b ∧ b < s) ∧ ¬ zn s a b ∧ Ext w w' := by
 have hM := M.start w
 refine enter Try.func59 rfl (by kernel_rfl) Try.ntmps59 rfl ?_
 refine C.seq <| C.region <| ?_
 refine E.allocM (z := .agg #[.int .i64 0, .int .i64 0]) (cs := [.int .i64 0, .int .i64 0]) hM (by kernel_rfl) rfl rfl ?_
 intro b6 w0 hM
 try dsimp only [Za, Zb, Zc, Zd, repl] at hM
 refine E.nil <| X.next <| C.seq <| C.block <| ?_

 refine C.chainE [(0, _), (1, _), (2, _), (6, _)] rfl [(7, .bool (decide (c = 1 ∧ i < 8)))] ?_ ?_
 ·
  refine C.region <| E.mv rfl rfl <| E.bin rfl rfl rfl rfl <| E.mv rfl rfl <| ?_
  refine E.split 10 rfl (fun g10 => ?_) (fun g10 => ?_)
  ·
   try simp only [Ya, Yb, Yc, Yd, Ye, Yf] at g10
   refine E.on rfl rfl (E.mv rfl rfl ?_)
   refine E.on rfl rfl (E.bin rfl rfl rfl rfl ?_)
   refine E.pick rfl rfl rfl <| E.asg rfl rfl <| E.nil <| X.join0 (Sub.cons (look_eq rfl (congrArg Value.bool (by exact decide_eq_decide.2 ⟨fun h => by omega, fun h => by omega⟩))) <| Sub.nil _) rfl rfl
  ·
   try simp only [Ya, Yb, Yc, Yd, Ye, Yf] at g10
   refine E.off rfl rfl rfl rfl <| E.off rfl rfl rfl rfl <| E.pick rfl rfl rfl <| E.asg rfl rfl <| E.nil <| X.join0 (Sub.cons (look_eq rfl (congrArg Value.bool (by exact (decide_eq_false (by omega)).symm))) <| Sub.nil _) rfl rfl
 refine C.cond' rfl (fun hC0 => ?_) (fun hC0 => ?_)
 ·
  refine C.seq <| C.region <| E.mv rfl rfl <| ?_
  refine E.sub' rfl rfl (by omega) rfl ?_
  refine E.mv rfl rfl <| ?_
  refine E.sub' rfl rfl (by omega) rfl ?_
  refine E.buildC (cs := [_, _]) [.int .i64 0, .int .i64 0] [0, 1] rfl rfl (by kernel_rfl) rfl ?_
  first
   | refine E.storeAM 0 hM rfl rfl rfl (by kernel_rfl) rfl ?_ ?_
   | refine E.storeAM 1 hM rfl rfl rfl (by kernel_rfl) rfl ?_ ?_
   | refine E.storeAM 2 hM rfl rfl rfl (by kernel_rfl) rfl ?_ ?_
   | refine E.storeAM 3 hM rfl rfl rfl (by kernel_rfl) rfl ?_ ?_
   | refine E.storeAM 4 hM rfl rfl rfl (by kernel_rfl) rfl ?_ ?_
  · exact ones (by rfl) <| ones (by rfl) <| ones_nil
  intro w1 hM
  try dsimp only [Za, Zb, Zc, Zd, repl] at hM
  refine E.nil <| X.next <| C.ret <| X.retB <| X.retT <| retA rfl rfl Try.underlying64 rfl (by exact hM.blk 0 rfl) (by kernel_rfl) ?_
  exact ⟨_, _, rfl, by omega, (by unfold zn; omega), hM.toExt⟩
 ·
  refine C.seq <| C.region <| E.mv rfl rfl <| E.bin rfl rfl rfl rfl <| E.asg rfl rfl <| E.nil <| X.next <| ?_
  refine C.cond' rfl (fun hC1 => ?_) (fun hC1 => ?_)
  ·
   refine C.seq <| C.region <| E.mv rfl rfl <| ?_
   refine E.sub' rfl rfl (by omega) rfl ?_
   refine E.mv rfl rfl <| ?_
   refine E.add rfl rfl (by omega) rfl ?_
   refine E.buildC (cs := [_, _]) [.int .i64 0, .int .i64 0] [0, 1] rfl rfl (by kernel_rfl) rfl ?_
   first
    | refine E.storeAM 0 hM rfl rfl rfl (by kernel_rfl) rfl ?_ ?_
    | refine E.storeAM 1 hM rfl rfl rfl (by kernel_rfl) rfl ?_ ?_
    | refine E.storeAM 2 hM rfl rfl rfl (by kernel_rfl) rfl ?_ ?_
    | refine E.storeAM 3 hM rfl rfl rfl (by kernel_rfl) rfl ?_ ?_
    | refine E.storeAM 4 hM rfl rfl rfl (by kernel_rfl) rfl ?_ ?_
   · exact ones (by rfl) <| ones (by rfl) <| ones_nil
   intro w2 hM
   try dsimp only [Za, Zb, Zc, Zd, repl] at hM
   refine E.nil <| X.next <| C.ret <| X.retB <| X.retT <| retA rfl rfl Try.underlying64 rfl (by exact hM.blk 0 rfl) (by kernel_rfl) ?_
   exact ⟨_, _, rfl, by omega, (by unfold zn; omega), hM.toExt⟩
  ·
   refine C.seq <| C.region <| E.mv rfl rfl <| E.bin rfl rfl rfl rfl <| E.asg rfl rfl <| E.nil <| X.next <| ?_
   refine C.cond' rfl (fun hC2 => ?_) (fun hC2 => ?_)
   ·
    refine C.seq <| C.region <| E.mv rfl rfl <| ?_
    refine E.buildC (cs := [_, _]) [.int .i64 0, .int .i64 0] [0, 1] rfl rfl (by kernel_rfl) rfl ?_
    first
     | refine E.storeAM 0 hM rfl rfl rfl (by kernel_rfl) rfl ?_ ?_
     | refine E.storeAM 1 hM rfl rfl rfl (by kernel_rfl) rfl ?_ ?_
     | refine E.storeAM 2 hM rfl rfl rfl (by kernel_rfl) rfl ?_ ?_
     | refine E.storeAM 3 hM rfl rfl rfl (by kernel_rfl) rfl ?_ ?_
     | refine E.storeAM 4 hM rfl rfl rfl (by kernel_rfl) rfl ?_ ?_
    · exact ones (by rfl) <| ones (by rfl) <| ones_nil
    intro w3 hM
    try dsimp only [Za, Zb, Zc, Zd, repl] at hM
    refine E.nil <| X.next <| C.ret <| X.retB <| X.retT <| retA rfl rfl Try.underlying64 rfl (by exact hM.blk 0 rfl) (by kernel_rfl) ?_
    exact ⟨_, _, rfl, by omega, (by unfold zn; omega), hM.toExt⟩
   ·
    refine C.seq <| C.region <| E.mv rfl rfl <| E.bin rfl rfl rfl rfl <| E.asg rfl rfl <| E.nil <| X.next <| ?_
    refine C.cond' rfl (fun hC3 => ?_) (fun hC3 => ?_)
    ·
     refine C.seq <| C.region <| E.mv rfl rfl <| ?_
     refine E.add rfl rfl (by omega) rfl ?_
     refine E.buildC (cs := [_, _]) [.int .i64 0, .int .i64 0] [0, 1] rfl rfl (by kernel_rfl) rfl ?_
     first
      | refine E.storeAM 0 hM rfl rfl rfl (by kernel_rfl) rfl ?_ ?_
      | refine E.storeAM 1 hM rfl rfl rfl (by kernel_rfl) rfl ?_ ?_
      | refine E.storeAM 2 hM rfl rfl rfl (by kernel_rfl) rfl ?_ ?_
      | refine E.storeAM 3 hM rfl rfl rfl (by kernel_rfl) rfl ?_ ?_
      | refine E.storeAM 4 hM rfl rfl rfl (by kernel_rfl) rfl ?_ ?_
     · exact ones (by rfl) <| ones (by rfl) <| ones_nil
     intro w4 hM
     try dsimp only [Za, Zb, Zc, Zd, repl] at hM
     refine E.nil <| X.next <| C.ret <| X.retB <| X.retT <| retA rfl rfl Try.underlying64 rfl (by exact hM.blk 0 rfl) (by kernel_rfl) ?_
     exact ⟨_, _, rfl, by omega, (by unfold zn; omega), hM.toExt⟩
    ·
     refine C.seq <| C.region <| E.mv rfl rfl <| E.bin rfl rfl rfl rfl <| E.asg rfl rfl <| E.nil <| X.next <| ?_
     refine C.cond' rfl (fun hC4 => ?_) (fun hC4 => ?_)
     ·
      refine C.seq <| C.region <| ?_
      refine E.buildC (cs := [_, _]) [.int .i64 0, .int .i64 0] [0, 1] rfl rfl (by kernel_rfl) rfl ?_
      first
       | refine E.storeAM 0 hM rfl rfl rfl (by kernel_rfl) rfl ?_ ?_
       | refine E.storeAM 1 hM rfl rfl rfl (by kernel_rfl) rfl ?_ ?_
       | refine E.storeAM 2 hM rfl rfl rfl (by kernel_rfl) rfl ?_ ?_
       | refine E.storeAM 3 hM rfl rfl rfl (by kernel_rfl) rfl ?_ ?_
       | refine E.storeAM 4 hM rfl rfl rfl (by kernel_rfl) rfl ?_ ?_
      · exact ones (by rfl) <| ones (by rfl) <| ones_nil
      intro w5 hM
      try dsimp only [Za, Zb, Zc, Zd, repl] at hM
      refine E.nil <| X.next <| C.ret <| X.retB <| X.retT <| retA rfl rfl Try.underlying64 rfl (by exact hM.blk 0 rfl) (by kernel_rfl) ?_
      exact ⟨_, _, rfl, by omega, (by unfold zn; omega), hM.toExt⟩
     ·
      refine C.skip <| X.outN <| X.next <| C.seq <| C.region <| E.mv rfl rfl <| ?_
      refine E.sub' rfl rfl (by omega) rfl ?_
      refine E.buildC (cs := [_, _]) [.int .i64 0, .int .i64 0] [0, 1] rfl rfl (by kernel_rfl) rfl ?_
      first
       | refine E.storeAM 0 hM rfl rfl rfl (by kernel_rfl) rfl ?_ ?_
       | refine E.storeAM 1 hM rfl rfl rfl (by kernel_rfl) rfl ?_ ?_
       | refine E.storeAM 2 hM rfl rfl rfl (by kernel_rfl) rfl ?_ ?_
       | refine E.storeAM 3 hM rfl rfl rfl (by kernel_rfl) rfl ?_ ?_
       | refine E.storeAM 4 hM rfl rfl rfl (by kernel_rfl) rfl ?_ ?_
      · exact ones (by rfl) <| ones (by rfl) <| ones_nil
      intro w6 hM
      try dsimp only [Za, Zb, Zc, Zd, repl] at hM
      refine E.nil <| X.next <| C.ret <| retA rfl rfl Try.underlying64 rfl (by exact hM.blk 0 rfl) (by kernel_rfl) ?_
      exact ⟨_, _, rfl, by omega, (by unfold zn; omega), hM.toExt⟩
set_option maxHeartbeats 1000000 in
theorem copy_ret (W H : Int) (vd : Value) (dk : List Bool) (w : World) (hr : RdL Value.bool w vd dk) (hl : dk.length ≤ 1000000) :
  Ret Try.prog 55 #[mat W H vd] w fun v w' => ∃ vo, v = mat W H vo ∧ M w Nn w' [Rg.sl Value.bool 4 vo dk] := by
 have hM := M.start w
 refine enter Try.func55 rfl (by kernel_rfl) Try.ntmps55 rfl ?_
 refine C.seq <| C.region <| ?_
 refine E.boxM (cs := [i64 W, i64 H, vd]) hM rfl (by obtain ⟨a, cap, rfl, _⟩ := hr; rfl) rfl ?_
 intro b1 w0 hM
 try dsimp only [Za, Zb, Zc, Zd, repl] at hM
 refine E.allocM (z := .agg #[.int .i64 0, .int .i64 0, .slice none 0 0]) (cs := [.int .i64 0, .int .i64 0, .slice none 0 0]) hM (by kernel_rfl) rfl rfl ?_
 intro b2 w1 hM
 try dsimp only [Za, Zb, Zc, Zd, repl] at hM
 refine E.nil <| X.next <| C.seq <| C.region <| E.asg rfl rfl <| E.nil <| X.next <| C.seq <| C.region <| E.mv rfl rfl <| ?_
 refine E.fld (o := 2) (sz := 0) rfl Try.underlying37 rfl rfl (by kernel_rfl) rfl ?_
 refine E.load rfl Try.underlying35 rfl (hM.bcell 0 rfl rfl) rfl ?_
 have hM := hM.nil Value.bool 4
 try dsimp only [Za, Zb, Zc, Zd, repl] at hM
 refine E.appendM 2 hM rfl rfl rfl Try.underlying35 elem_Tbool (hM.arg0 hr) (fun _ => rfl) (by simp only [List.length_nil]; omega) (by simp only [List.length_nil]; omega) rfl ?_
 intro v7 w2 hM
 try dsimp only [Za, Zb, Zc, Zd, repl] at hM
 refine E.asg rfl rfl <| E.nil <| X.next <| C.seq <| C.region <| ?_
 refine E.fld (o := 0) (sz := 0) rfl Try.underlying37 rfl rfl (by kernel_rfl) rfl ?_
 refine E.load rfl Try.underlying3 rfl (hM.bcell 0 rfl rfl) rfl ?_
 refine E.fld (o := 1) (sz := 0) rfl Try.underlying37 rfl rfl (by kernel_rfl) rfl ?_
 refine E.load rfl Try.underlying3 rfl (hM.bcell 0 rfl rfl) rfl ?_
 refine E.mv rfl rfl <| ?_
 refine E.buildC (cs := [i64 W, i64 H, v7]) [.int .i64 0, .int .i64 0, .slice none 0 0] [0, 1, 2] rfl (by obtain ⟨a, c, rfl⟩ := Rd.shape (hM.sl 2 rfl); rfl) (by obtain ⟨a, c, rfl⟩ := Rd.shape (hM.sl 2 rfl); kernel_rfl) rfl ?_
 refine E.storeAM 1 (cs := [i64 W, i64 H, v7]) hM rfl rfl rfl (by kernel_rfl) rfl (ones rfl <| ones rfl <| ones (by obtain ⟨a, c, rfl⟩ := Rd.shape (hM.sl 2 rfl); rfl) <| ones_nil) ?_
 intro w3 hM
 try dsimp only [Za, Zb, Zc, Zd, repl] at hM
 refine E.nil <| X.next <| C.ret <| retA rfl rfl Try.underlying37 rfl (by exact hM.blk 1 rfl) (by kernel_rfl) ?_
 exact ⟨v7, rfl, hM.pick [2] (by decide)⟩
end Go.Proofs.Ytbinlkobmlebpaa
