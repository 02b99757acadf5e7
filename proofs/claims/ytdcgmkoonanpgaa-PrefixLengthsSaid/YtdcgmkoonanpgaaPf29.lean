/- PrefixLengths. -/
import Derived.Test.YtdcgmkoonanpgaaPf28
import Derived.Test.YtdcgmkoonanpgaaPf14
namespace Go.Proofs.Ytdcgmkoonanpgaa
set_option linter.unusedSimpArgs false
set_option linter.unusedVariables false
open Go.RowKit Sym

set_option maxHeartbeats 1000000 in
theorem PrefixLengths_ret (p : Value) (a : List Int) (x : Int) (w : World) (ha : RdL i64 w p a) :
    Ret Try.prog 8 #[p, i64 x] w fun v w' => v = .bool true ∧ Ext w w' := by
  have hM := M.start w
  refine enter Try.func8 rfl (by kernel_rfl) Try.ntmps8 rfl ?_
  refine C.seq <| C.region <| E.asg rfl rfl <| E.nil <| X.next <| C.seq <| C.seq <| C.region <| E.mv rfl rfl <| ?_
  refine E.lenv rfl (Rd.shape (hM.arg0 ha)) Try.underlying67 rfl ?_
  refine E.bin rfl rfl rfl rfl <| E.nil <| X.next <| ?_
  refine C.cond' rfl (fun hC0 => ?_) (fun hC0 => ?_)
  ·
    refine C.seq <| C.region <| ?_
    refine E.call rfl rfl (alive_ret _) ?_
    rintro _ wz ⟨rfl, xz⟩
    have hM := hM.ext xz
    try dsimp only [List.nil_append, List.cons_append, List.set_cons_zero, List.set_cons_succ, repl] at hM
    refine E.asg rfl rfl <| E.nil <| X.next <| C.ret <| X.retT <| ret1 rfl rfl ?_
    exact ⟨rfl, hM.toExt⟩
  ·
    refine C.skip <| X.next <| C.seq <| C.region <| E.mv rfl rfl <| E.mv rfl rfl <| ?_
    refine E.call rfl rfl (Lengths_ret p a x _ (hM.arg0 ha)) ?_
    rintro _ w1 ⟨v16, rfl, m⟩
    have hM := hM.call m
    try dsimp only [List.nil_append, List.cons_append, List.set_cons_zero, List.set_cons_succ, repl] at hM
    refine E.mv rfl rfl <| E.ext rfl rfl rfl <| E.ext rfl rfl rfl <| E.asg rfl rfl <| E.asg rfl rfl <| E.nil <| X.next <| C.seq <| C.region <| E.mv rfl rfl <| E.mv rfl rfl <| ?_
    refine E.call rfl rfl (rLengths_ret p a x _ (hM.arg0 ha)) ?_
    rintro _ w2 ⟨v22, rfl, m⟩
    have hM := hM.call m
    try dsimp only [List.nil_append, List.cons_append, List.set_cons_zero, List.set_cons_succ, repl] at hM
    refine E.mv rfl rfl <| E.ext rfl rfl rfl <| E.ext rfl rfl rfl <| E.asg rfl rfl <| E.asg rfl rfl <| E.nil <| X.next <| ?_

    refine C.cut0 [] rfl [(4, .bool true)] (fun w' => M w (Nn) w' []) ?_ ?_
    ·
      refine C.region <| E.mv rfl rfl <| E.mv rfl rfl <| ?_
      refine E.call rfl rfl (Ints_ret v16 v22 _ _ _ (hM.sl 0 rfl) (hM.sl 1 rfl)) ?_
      rintro _ w5 ⟨rfl, x5⟩
      have hM := hM.ext x5
      try dsimp only [List.nil_append, List.cons_append, List.set_cons_zero, List.set_cons_succ, repl] at hM
      refine E.mv rfl rfl <| ?_
      refine E.split 28 rfl (fun g28 => ?_) (fun g28 => ?_)
      ·
        try simp only [decide_eq_true_eq, decide_eq_false_iff_not, ne_eq, Decidable.not_not, Bool.not_eq_true', Bool.not_eq_false'] at g28
        refine E.on rfl rfl (E.mv rfl rfl ?_)
        refine E.on rfl rfl (E.mv rfl rfl ?_)
        refine E.on rfl rfl (E.bin rfl rfl rfl rfl ?_)
        refine E.pick rfl rfl rfl <| E.mv rfl rfl <| ?_
        refine E.split 33 rfl (fun g33 => ?_) (fun g33 => ?_)
        ·
          try simp only [decide_eq_true_eq, decide_eq_false_iff_not, ne_eq, Decidable.not_not, Bool.not_eq_true', Bool.not_eq_false'] at g33
          refine E.on rfl rfl (E.call rfl rfl (alive_ret _) ?_)
          rintro _ wz ⟨rfl, xz⟩
          have hM := hM.ext xz
          try dsimp only [List.nil_append, List.cons_append, List.set_cons_zero, List.set_cons_succ, repl] at hM

          refine E.pick rfl rfl rfl <| E.asg rfl rfl <| E.nil <| X.join0  (Sub.cons rfl <| Sub.nil _) rfl (hM.pick [] (by decide))
        ·
          try simp only [decide_eq_true_eq, decide_eq_false_iff_not, ne_eq, Decidable.not_not, Bool.not_eq_true', Bool.not_eq_false'] at g33
          exact (g33 trivial).elim
      ·
        try simp only [decide_eq_true_eq, decide_eq_false_iff_not, ne_eq, Decidable.not_not, Bool.not_eq_true', Bool.not_eq_false'] at g28
        exact (g28 trivial).elim
    rintro  w5 hM
    refine C.ret <| ret1 rfl rfl ?_
    exact ⟨rfl, hM.toExt⟩

end Go.Proofs.Ytdcgmkoonanpgaa
