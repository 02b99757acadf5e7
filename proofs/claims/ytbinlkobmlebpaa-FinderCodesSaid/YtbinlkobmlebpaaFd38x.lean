/- finder: numbers of codewords. -/
import Derived.Test.Ytbinlkobmlebpaax0
import Derived.Test.YtbinlkobmlebpaaFd37x
set_option linter.unusedSimpArgs false
set_option linter.unusedVariables false
namespace Go.Proofs.Ytbinlkobmlebpaa
open Go.RowKit Sym
open Fi
def wds : List Int := [26, 44, 70, 100, 134, 172, 196, 242, 292, 346, 404, 466, 532, 581, 655, 733, 815, 901, 991, 1085, 1156, 1258, 1364, 1474, 1588, 1706, 1828, 1921, 2051, 2185, 2323, 2465, 2611, 2761, 2876, 3034, 3196, 3362, 3532, 3706]
theorem words_ret (w : World) :
  Ret Try.prog 74 #[] w fun v w' => M w Nn w' [Rg.sl i64 3 v wds] := by
 have hM := M.start w
 refine enter Try.func74 rfl (by kernel_rfl) Try.ntmps74 rfl ?_
 refine C.seq <| C.region <| E.asg rfl rfl <| E.nil <| X.next <| C.seq <| C.region <| ?_
 refine E.mkM (enc := i64) (e := 3) wds hM rfl (fun _ => by kernel_rfl) rfl rfl rfl ?_
 intro v1 w0 hM
 try dsimp only [Za, Zb, Zc, Zd, repl] at hM
 refine E.asg rfl rfl <| E.nil <| X.next <| C.ret <| ret1 rfl rfl ?_
 exact hM
set_option maxHeartbeats 1000000 in
theorem codewords_ret (u : Nat) (w : World) (hu : 1 ≤ u ∧ u ≤ 6) :
  Ret Try.prog 53 #[i64 u] w fun v w' => ∃ n r : Int, v = .tuple #[i64 n, i64 r, i64 0] ∧ (0 ≤ n ∧ n ≤ 10000) ∧ Ext w w' := by
 have hM := M.start w
 refine enter Try.func53 rfl (by kernel_rfl) Try.ntmps53 rfl ?_
 refine C.seq <| C.region <| E.asg rfl rfl <| E.asg rfl rfl <| E.asg rfl rfl <| E.nil <| X.next <| C.seq <| ?_

 refine C.chainE [(0, _)] rfl [(11, .bool (decide False))] ?_ ?_
 ·
  refine C.region <| E.mv rfl rfl <| E.bin rfl rfl rfl rfl <| E.mv rfl rfl <| ?_
  refine E.split 8 rfl (fun g8 => ?_) (fun g8 => ?_)
  ·
   try simp only [Ya, Yb, Yc, Yd, Ye, Yf] at g8
   refine E.off rfl rfl rfl rfl <| E.off rfl rfl rfl rfl <| E.pick rfl rfl rfl <| E.nil <| X.join0 (Sub.cons (look_eq rfl (congrArg Value.bool (by (exfalso; omega)))) <| Sub.nil _) rfl rfl
  ·
   try simp only [Ya, Yb, Yc, Yd, Ye, Yf] at g8
   refine E.on rfl rfl (E.mv rfl rfl ?_)
   refine E.on rfl rfl (E.bin rfl rfl rfl rfl ?_)
   refine E.pick rfl rfl rfl <| E.nil <| X.join0 (Sub.cons (look_eq rfl (congrArg Value.bool (by exact decide_eq_decide.2 ⟨fun h => by omega, fun h => by cases h⟩))) <| Sub.nil _) rfl rfl
 refine C.cond' rfl (fun hC0 => ?_) (fun hC0 => ?_)
 ·
  cases hC0
 ·
  refine C.skip <| X.next <| C.seq <| C.region <| E.asg rfl rfl <| E.nil <| X.next <| ?_

  refine C.cut1 [(0, _)] rfl (fun (r : Int) => [(5, i64 r)]) (fun (r : Int) w' => M w (Nn) w' []) ?_ ?_
  ·
   refine C.block <| ?_

   refine C.chainE [(0, _), (5, _)] rfl [(12, .bool (decide (2 ≤ (u : Int) ∧ (u : Int) ≤ 6)))] ?_ ?_
   ·
    refine C.region <| E.mv rfl rfl <| E.bin rfl rfl rfl rfl <| E.mv rfl rfl <| ?_
    refine E.split 15 rfl (fun g15 => ?_) (fun g15 => ?_)
    ·
     try simp only [Ya, Yb, Yc, Yd, Ye, Yf] at g15
     refine E.on rfl rfl (E.mv rfl rfl ?_)
     refine E.on rfl rfl (E.bin rfl rfl rfl rfl ?_)
     refine E.pick rfl rfl rfl <| E.asg rfl rfl <| E.nil <| X.join0 (Sub.cons (look_eq rfl (congrArg Value.bool (by exact decide_eq_decide.2 ⟨fun h => by omega, fun h => by omega⟩))) <| Sub.nil _) rfl rfl
    ·
     try simp only [Ya, Yb, Yc, Yd, Ye, Yf] at g15
     refine E.off rfl rfl rfl rfl <| E.off rfl rfl rfl rfl <| E.pick rfl rfl rfl <| E.asg rfl rfl <| E.nil <| X.join0 (Sub.cons (look_eq rfl (congrArg Value.bool (by exact (decide_eq_false (by omega)).symm))) <| Sub.nil _) rfl rfl
   refine C.cond' rfl (fun hC1 => ?_) (fun hC1 => ?_)
   ·

    refine C.region <| E.asg rfl rfl <| E.nil <| X.outN <| X.join1 _ (Sub.cons rfl <| Sub.nil _) rfl hM
   ·

    refine C.chainE [(0, _), (5, _)] rfl [(19, .bool (decide False))] ?_ ?_
    ·
     refine C.region <| E.mv rfl rfl <| E.bin rfl rfl rfl rfl <| E.mv rfl rfl <| ?_
     refine E.split 22 rfl (fun g22 => ?_) (fun g22 => ?_)
     ·
      try simp only [Ya, Yb, Yc, Yd, Ye, Yf] at g22
      refine E.on rfl rfl (E.mv rfl rfl ?_)
      refine E.on rfl rfl (E.bin rfl rfl rfl rfl ?_)
      refine E.pick rfl rfl rfl <| E.mv rfl rfl <| ?_
      refine E.split 26 rfl (fun g26 => ?_) (fun g26 => ?_)
      ·
       try simp only [Ya, Yb, Yc, Yd, Ye, Yf] at g26
       refine E.off rfl rfl rfl rfl <| E.off rfl rfl rfl rfl <| E.off rfl rfl rfl rfl <| E.offu rfl rfl rfl <| E.offu rfl rfl rfl <| E.off rfl rfl rfl rfl <| E.pick rfl rfl rfl <| E.asg rfl rfl <| E.nil <| X.join0 (Sub.cons (look_eq rfl (congrArg Value.bool (by (exfalso; omega)))) <| Sub.nil _) rfl rfl
      ·
       try simp only [Ya, Yb, Yc, Yd, Ye, Yf] at g26
       refine E.on rfl rfl (E.mv rfl rfl ?_)
       refine E.on rfl rfl (E.bin rfl rfl rfl rfl ?_)
       refine E.on rfl rfl (E.mv rfl rfl ?_)
       refine E.split 29 rfl (fun g29 => ?_) (fun g29 => ?_)
       ·
        try simp only [Ya, Yb, Yc, Yd, Ye, Yf] at g29
        refine E.on rfl rfl (E.mv rfl rfl ?_)
        refine E.on rfl rfl (E.bin rfl rfl rfl rfl ?_)
        refine E.on rfl rfl (E.pick rfl rfl rfl ?_)
        refine E.pick rfl rfl rfl <| E.asg rfl rfl <| E.nil <| X.join0 (Sub.cons (look_eq rfl (congrArg Value.bool (by (exfalso; omega)))) <| Sub.nil _) rfl rfl
       ·
        try simp only [Ya, Yb, Yc, Yd, Ye, Yf] at g29
        refine E.off rfl rfl rfl rfl <| E.off rfl rfl rfl rfl <| ?_
        refine E.on rfl rfl (E.pick rfl rfl rfl ?_)
        refine E.pick rfl rfl rfl <| E.asg rfl rfl <| E.nil <| X.join0 (Sub.cons (look_eq rfl (congrArg Value.bool (by rfl))) <| Sub.nil _) rfl rfl
     ·
      try simp only [Ya, Yb, Yc, Yd, Ye, Yf] at g22
      refine E.off rfl rfl rfl rfl <| E.off rfl rfl rfl rfl <| E.pick rfl rfl rfl <| E.mv rfl rfl <| ?_
      refine E.on rfl rfl (E.mv rfl rfl ?_)
      refine E.on rfl rfl (E.bin rfl rfl rfl rfl ?_)
      refine E.on rfl rfl (E.mv rfl rfl ?_)
      refine E.split 29 rfl (fun g29 => ?_) (fun g29 => ?_)
      ·
       try simp only [Ya, Yb, Yc, Yd, Ye, Yf] at g29
       refine E.on rfl rfl (E.mv rfl rfl ?_)
       refine E.on rfl rfl (E.bin rfl rfl rfl rfl ?_)
       refine E.on rfl rfl (E.pick rfl rfl rfl ?_)
       refine E.pick rfl rfl rfl <| E.asg rfl rfl <| E.nil <| X.join0 (Sub.cons (look_eq rfl (congrArg Value.bool (by (exfalso; omega)))) <| Sub.nil _) rfl rfl
      ·
       try simp only [Ya, Yb, Yc, Yd, Ye, Yf] at g29
       refine E.off rfl rfl rfl rfl <| E.off rfl rfl rfl rfl <| ?_
       refine E.on rfl rfl (E.pick rfl rfl rfl ?_)
       refine E.pick rfl rfl rfl <| E.asg rfl rfl <| E.nil <| X.join0 (Sub.cons (look_eq rfl (congrArg Value.bool (by rfl))) <| Sub.nil _) rfl rfl
    refine C.cond' rfl (fun hC2 => ?_) (fun hC2 => ?_)
    ·
     cases hC2
    ·

     refine C.chainE [(0, _), (5, _)] rfl [(34, .bool (decide False))] ?_ ?_
     ·
      refine C.region <| E.mv rfl rfl <| E.bin rfl rfl rfl rfl <| E.mv rfl rfl <| ?_
      refine E.split 37 rfl (fun g37 => ?_) (fun g37 => ?_)
      ·
       try simp only [Ya, Yb, Yc, Yd, Ye, Yf] at g37
       refine E.on rfl rfl (E.mv rfl rfl ?_)
       refine E.on rfl rfl (E.bin rfl rfl rfl rfl ?_)
       refine E.pick rfl rfl rfl <| E.asg rfl rfl <| E.nil <| X.join0 (Sub.cons (look_eq rfl (congrArg Value.bool (by (exfalso; omega)))) <| Sub.nil _) rfl rfl
      ·
       try simp only [Ya, Yb, Yc, Yd, Ye, Yf] at g37
       refine E.off rfl rfl rfl rfl <| E.off rfl rfl rfl rfl <| E.pick rfl rfl rfl <| E.asg rfl rfl <| E.nil <| X.join0 (Sub.cons (look_eq rfl (congrArg Value.bool (by rfl))) <| Sub.nil _) rfl rfl
     refine C.cond' rfl (fun hC3 => ?_) (fun hC3 => ?_)
     ·
      cases hC3
     ·

      refine C.skip <| X.outN <| X.join1 _ (Sub.cons rfl <| Sub.nil _) rfl hM
  rintro r w0 hM
  refine C.seq <| C.region <| ?_
  refine E.call rfl rfl (words_ret _) ?_
  rintro v41 w1 m1
  have hM := hM.call m1
  have hk : u - 1 < wds.length := by show u - 1 < 40; omega
  have hwb : ∀ z ∈ wds, 0 ≤ z ∧ z ≤ 10000 := by decide
  have hwk := hwb _ (List.getElem_mem hk)
  try dsimp only [Za, Zb, Zc, Zd, repl] at hM
  refine E.mv rfl rfl <| ?_
  refine E.subN (a := u) (b := 1) rfl rfl (by omega) rfl ?_
  refine E.get (k := u - 1) rfl rfl (hM.sl 0 rfl) rfl hk Try.underlying45 (by kernel_rfl) Try.underlying3 rfl rfl rfl ?_
  refine E.mv rfl rfl <| E.asg rfl rfl <| E.asg rfl rfl <| E.asg rfl rfl <| E.nil <| X.next <| C.ret <| ret3 rfl rfl rfl rfl ?_
  exact ⟨_, _, rfl, hwk, hM.toExt⟩
end Go.Proofs.Ytbinlkobmlebpaa
