/- The law ChecksumNils: its walk. -/
import Derived.Test.YtmekdfkcjhgkdaaEx06
import Derived.Test.YtmekdfkcjhgkdaaSymQ
import Derived.Test.YtmekdfkcjhgkdaaCrcMore
import Derived.Test.YtmekdfkcjhgkdaaFrame
namespace Go.Proofs.Ytmekdfkcjhgkdaa
open Go.RowKit Sym

theorem ChecksumNils_ret (p : Value) (l : List UInt8) (w : World) (_hp : RdL u8 w p l) :
    Ret Try.prog 13 #[p] w fun v w' => v = .bool true ∧ Ext w w' := by
  refine enter Try.func13 rfl (by kernel_rfl) Try.ntmps13 rfl ?_
  refine C.seq <| C.region <| E.asg rfl rfl <| E.nil <| X.next <| C.seq <| C.region <| E.asg rfl rfl <| E.nil <| X.next <| C.seq <| C.region <| ?_
  refine E.alloc (z := .agg (dgst 0#32 0 false)) (by kernel_rfl) rfl ?_
  have hb : Blk (w.alloc (.cells (dgst 0#32 0 false) 54)) w.heap.size 54 (dgst 0#32 0 false) := Blk.new w _ _
  have hx : Ext w (w.alloc (.cells (dgst 0#32 0 false) 54)) := Ext.new w _
  revert hb hx
  change _ → _ → wpE _ _ _ _ _ _ (w.alloc (.cells (dgst 0#32 0 false) 54))
  generalize w.alloc (.cells (dgst 0#32 0 false) 54) = w1
  generalize w.heap.size = B
  intro hb hx
  refine E.nil <| X.next <| C.seq <| C.region <| E.mv rfl rfl <| E.mv rfl rfl <| ?_
  refine E.call rfl rfl (Write_nil p _) ?_
  rintro _ _ ⟨rfl, rfl⟩
  refine E.mv rfl rfl <| ?_
  refine E.call rfl rfl (Write_no B _ _ p _ hb) ?_
  rintro _ _ ⟨rfl, rfl⟩
  refine E.asg rfl rfl <| E.asg rfl rfl <| E.nil <| X.next <| C.seq <| C.region <| E.mv rfl rfl <| E.bin rfl rfl rfl rfl <| E.mv rfl rfl <| ?_
  refine E.on rfl rfl (E.mv rfl rfl ?_)
  refine E.on rfl rfl (E.bin rfl rfl rfl rfl ?_)
  refine E.pick rfl rfl rfl <| E.mv rfl rfl <| ?_
  refine E.on rfl rfl (E.mv rfl rfl ?_)
  refine E.on rfl rfl (E.call rfl rfl (Sum_nil _) ?_)
  rintro _ _ ⟨rfl, rfl⟩
  refine E.on rfl rfl (E.bin rfl rfl rfl rfl ?_)
  refine E.pick rfl rfl rfl <| E.mv rfl rfl <| ?_
  refine E.on rfl rfl (E.call rfl rfl (Sum_no B _ _ _ hb) ?_)
  rintro _ _ ⟨rfl, rfl⟩
  refine E.on rfl rfl (E.bin rfl rfl rfl rfl ?_)
  refine E.pick rfl rfl rfl <| E.mv rfl rfl <| ?_
  refine E.on rfl rfl (E.mv rfl rfl ?_)
  refine E.on rfl rfl (E.call rfl rfl (Len_nil _) ?_)
  rintro _ _ ⟨rfl, rfl⟩
  refine E.on rfl rfl (E.bin rfl rfl rfl rfl ?_)
  refine E.pick rfl rfl rfl <| E.mv rfl rfl <| ?_
  refine E.on rfl rfl (E.call rfl rfl (Len_no B _ _ _ hb) ?_)
  rintro _ _ ⟨rfl, rfl⟩
  refine E.on rfl rfl (E.bin rfl rfl rfl rfl ?_)
  refine E.pick rfl rfl rfl <| E.mv rfl rfl <| ?_
  refine E.on rfl rfl (E.mv rfl rfl ?_)
  refine E.on rfl rfl (E.call rfl rfl (Clone_nil _) ?_)
  rintro _ _ ⟨rfl, rfl⟩
  refine E.on rfl rfl (E.eqnil rfl rfl Try.underlying42 rfl ?_)
  refine E.pick rfl rfl rfl <| E.mv rfl rfl <| ?_
  refine E.on rfl rfl (E.call rfl rfl (Clone_no B _ _ _ hb) ?_)
  rintro _ _ ⟨rfl, rfl⟩
  refine E.on rfl rfl (E.eqnil rfl rfl Try.underlying42 rfl ?_)
  refine E.pick rfl rfl rfl <| E.mv rfl rfl <| ?_
  refine E.on rfl rfl (E.call rfl rfl (exampleHolds_ret _) ?_)
  rintro _ w6 ⟨rfl, hx6⟩
  refine E.pick rfl rfl rfl <| E.asg rfl rfl <| E.nil <| X.next <| C.ret <| ret1 rfl rfl ?_
  exact ⟨rfl, hx.trans hx6⟩
end Go.Proofs.Ytmekdfkcjhgkdaa
