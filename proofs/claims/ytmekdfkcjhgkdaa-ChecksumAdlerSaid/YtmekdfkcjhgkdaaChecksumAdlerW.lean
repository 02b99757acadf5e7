/- The law ChecksumAdler: its walk. -/
import Derived.Test.YtmekdfkcjhgkdaaEx06
namespace Go.Proofs.Ytmekdfkcjhgkdaa
open Go.RowKit Sym

theorem ChecksumAdler_ret (p : Value) (l : List UInt8) (w : World) (hp : RdL u8 w p l) :
    Ret Try.prog 5 #[p] w fun v w' => v = .bool true ∧ Ext w w' := by
  refine enter Try.func5 rfl (by kernel_rfl) Try.ntmps5 rfl ?_
  refine C.seq <| C.region <| E.asg rfl rfl <| E.nil <| X.next <| C.seq <| C.region <| E.mv rfl rfl <| ?_
  refine E.len rfl hp Try.underlying22 rfl ?_
  refine E.bin rfl rfl rfl rfl <| E.mv rfl rfl <| ?_
  by_cases hl : (20000 : Int) < (l.length : Int)
  case pos =>
    rw [decide_eq_true hl]
    refine E.off rfl rfl rfl rfl <| E.off rfl rfl rfl rfl <| E.off rfl rfl rfl rfl <| E.off rfl rfl rfl rfl <| E.off rfl rfl rfl rfl <| E.pick rfl rfl rfl <| E.mv rfl rfl <| ?_
    refine E.on rfl rfl (E.call rfl rfl (exampleHolds_ret _) ?_)
    rintro _ w1 ⟨rfl, hx1⟩
    refine E.pick rfl rfl rfl <| E.asg rfl rfl <| E.nil <| X.next <| C.ret <| ret1 rfl rfl ?_
    exact ⟨rfl, hx1⟩
  rw [decide_eq_false hl]
  refine E.on rfl rfl (E.mv rfl rfl ?_)
  refine E.on rfl rfl (E.call rfl rfl (Adler32_ret p l _ hp) ?_)
  rintro _ _ ⟨rfl, rfl⟩
  refine E.on rfl rfl (E.mv rfl rfl ?_)
  refine E.on rfl rfl (E.call rfl rfl (rAdler32_ret p l _ hp) ?_)
  rintro _ _ ⟨rfl, rfl⟩
  refine E.on rfl rfl (E.binw rfl rfl rfl (beqT rfl) rfl ?_)
  refine E.pick rfl rfl rfl <| E.mv rfl rfl <| ?_
  refine E.on rfl rfl (E.call rfl rfl (exampleHolds_ret _) ?_)
  rintro _ w3 ⟨rfl, hx3⟩
  refine E.pick rfl rfl rfl <| E.asg rfl rfl <| E.nil <| X.next <| C.ret <| ret1 rfl rfl ?_
  exact ⟨rfl, hx3⟩
end Go.Proofs.Ytmekdfkcjhgkdaa
