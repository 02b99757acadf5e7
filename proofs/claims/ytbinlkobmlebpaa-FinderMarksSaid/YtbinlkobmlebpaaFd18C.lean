/- finder: the reference's triples and sides. -/
import Derived.Test.YtbinlkobmlebpaaC16
set_option linter.unusedSimpArgs false
set_option linter.unusedVariables false
namespace Go.Proofs.Ytbinlkobmlebpaa
open Go.RowKit Sym
open Fi
theorem rabs_ret (n : Int) (w : World) (hn : -9223372036854775807 ≤ n ∧ n ≤ 9223372036854775807) :
  Ret Try.prog 63 #[i64 n] w fun v w' => v = i64 (max n (-n)) ∧ Ext w w' := by
 have hM := M.start w
 refine enter Try.func63 rfl (by kernel_rfl) Try.ntmps63 rfl ?_
 refine C.seq <| C.region <| E.asg rfl rfl <| E.nil <| X.next <| C.seq <| C.region <| E.mv rfl rfl <| E.mv rfl rfl <| ?_
 refine E.neg rfl (IntWalk.i64_in _ (by omega)) rfl ?_
 rw [Int.zero_sub]
 refine E.max2 rfl rfl rfl <| E.asg rfl rfl <| E.nil <| X.next <| C.ret <| ret1 rfl rfl ?_
 exact ⟨rfl, hM.toExt⟩
end Go.Proofs.Ytbinlkobmlebpaa
