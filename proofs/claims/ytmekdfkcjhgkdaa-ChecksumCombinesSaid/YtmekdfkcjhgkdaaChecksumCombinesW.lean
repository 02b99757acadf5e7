/- The law ChecksumCombines: its walk. -/
import Derived.Test.YtmekdfkcjhgkdaaEx06
import Derived.Test.YtmekdfkcjhgkdaaFrame
namespace Go.Proofs.Ytmekdfkcjhgkdaa
open Go.RowKit Sym

theorem ChecksumCombines_ret (a b : BitVec 32) (n : Int) (w : World) (hw : (Lit.int .i64 n).wf = true) :
    Ret Try.prog 6 #[u32 a, u32 b, i64 n] w fun v w' => v = .bool true ∧ Ext w w' := by
  have hn := wf_i64 hw
  obtain ⟨x, e, hv⟩ : ∃ x e, combV a b n = .tuple #[.int .u32 x, i64 e] := by unfold combV; split <;> exact ⟨_, _, rfl⟩
  refine enter Try.func6 rfl (by kernel_rfl) Try.ntmps6 rfl ?_
  refine C.seq <| C.region <| E.asg rfl rfl <| E.nil <| X.next <| C.seq <| C.region <| E.mv rfl rfl <| E.mv rfl rfl <| E.mv rfl rfl <| ?_
  refine E.call rfl rfl (Combine_ret a b n _ hn.2) ?_
  rintro _ _ ⟨rfl, rfl⟩
  rw [hv]
  refine E.mv rfl rfl <| E.ext rfl rfl rfl <| E.ext rfl rfl rfl <| E.asg rfl rfl <| E.asg rfl rfl <| E.nil <| X.next <| C.seq <| C.region <| E.mv rfl rfl <| E.mv rfl rfl <| E.mv rfl rfl <| ?_
  refine E.call rfl rfl (rCombine_ret a b n _ hn.2) ?_
  rintro _ _ ⟨rfl, rfl⟩
  rw [hv]
  refine E.mv rfl rfl <| E.ext rfl rfl rfl <| E.ext rfl rfl rfl <| E.asg rfl rfl <| E.asg rfl rfl <| E.nil <| X.next <| C.seq <| C.region <| E.mv rfl rfl <| E.mv rfl rfl <| E.binw rfl rfl rfl (beqT rfl) rfl <| E.mv rfl rfl <| ?_
  refine E.on rfl rfl (E.mv rfl rfl ?_)
  refine E.on rfl rfl (E.mv rfl rfl ?_)
  refine E.on rfl rfl (E.binw rfl rfl rfl (beqT rfl) rfl ?_)
  refine E.pick rfl rfl rfl <| E.mv rfl rfl <| ?_
  refine E.on rfl rfl (E.call rfl rfl (exampleHolds_ret _) ?_)
  rintro _ w3 ⟨rfl, hx3⟩
  refine E.pick rfl rfl rfl <| E.asg rfl rfl <| E.nil <| X.next <| C.ret <| ret1 rfl rfl ?_
  exact ⟨rfl, hx3⟩
end Go.Proofs.Ytmekdfkcjhgkdaa
