/- The law ChecksumJoins: its walk. -/
import Derived.Test.YtmekdfkcjhgkdaaEx06
import Derived.Test.YtmekdfkcjhgkdaaSymQ
import Derived.Test.YtmekdfkcjhgkdaaCrcMore
import Derived.Test.YtmekdfkcjhgkdaaFrame
namespace Go.Proofs.Ytmekdfkcjhgkdaa
open Go.RowKit Sym

theorem elem_Tuint8 : Elem Try.prog 5 1 1 := elem_of (z := .int .u8 0) (by kernel_rfl) rfl (by decide)
theorem ChecksumJoins_ret (p : Value) (l : List UInt8) (q : Value) (m : List UInt8) (w : World) (hp : RdL u8 w p l) (hq : RdL u8 w q m) :
    Ret Try.prog 7 #[p, q] w fun v w' => v = .bool true ∧ Ext w w' := by
  refine enter Try.func7 rfl (by kernel_rfl) Try.ntmps7 rfl ?_
  refine C.seq <| C.region <| E.asg rfl rfl <| E.nil <| X.next <| C.seq <| C.seq <| C.region <| E.mv rfl rfl <| ?_
  refine E.len rfl hp Try.underlying22 rfl ?_
  refine E.bin rfl rfl rfl rfl <| E.mv rfl rfl <| ?_
  by_cases hl : (2000 : Int) < (l.length : Int)
  case pos =>
    rw [decide_eq_true hl]
    refine E.off rfl rfl rfl rfl <| E.off rfl rfl rfl rfl <| E.off rfl rfl rfl rfl <| E.pick rfl rfl rfl <| E.nil <| X.next <| C.condT rfl <| C.seq <| C.region ?_
    refine E.call rfl rfl (exampleHolds_ret _) ?_
    rintro _ w1 ⟨rfl, hx1⟩
    refine E.asg rfl rfl <| E.nil <| X.next <| C.ret <| X.retT <| ret1 rfl rfl ?_
    exact ⟨rfl, hx1⟩
  rw [decide_eq_false hl]
  refine E.on rfl rfl (E.mv rfl rfl ?_)
  refine E.on rfl rfl (E.len rfl hq Try.underlying22 rfl ?_)
  refine E.on rfl rfl (E.bin rfl rfl rfl rfl ?_)
  refine E.pick rfl rfl rfl <| E.nil <| X.next <| ?_
  refine C.cond' rfl (fun hc => ?_) (fun hc => ?_)
  ·
    refine C.seq <| C.region <| ?_
    refine E.call rfl rfl (exampleHolds_ret _) ?_
    rintro _ w1 ⟨rfl, hx1⟩
    refine E.asg rfl rfl <| E.nil <| X.next <| C.ret <| X.retT <| ret1 rfl rfl ?_
    exact ⟨rfl, hx1⟩
  ·
    refine C.skip <| X.next <| C.seq <| C.region <| E.asg rfl rfl <| E.nil <| X.next <| C.seq <| C.region <| E.mv rfl rfl <| E.mv rfl rfl <| ?_
    refine E.appendL rfl rfl Try.underlying22 elem_Tuint8 (OwnL.nil _ _ w.heap.size _) hp (fun _ => rfl) (by simp; omega) (by simp; omega) (Nat.le_refl _) rfl ?_
    intro a w1 ho1 hg1 _
    have hx1 : Ext w w1 := (Ext.refl w).own (OwnL.nil u8 w w.heap.size 5) hg1 (Nat.le_refl _)
    refine E.asg rfl rfl <| E.nil <| X.next <| C.seq <| C.region <| E.mv rfl rfl <| E.mv rfl rfl <| ?_
    refine E.appendL rfl rfl Try.underlying22 elem_Tuint8 ho1 (hq.ext hx1) (fun _ => rfl) (by simp; omega) (by simp; omega) hx1.size rfl ?_
    intro b w2 ho2 hg2 _
    have hx2 : Ext w w2 := hx1.own ho1 hg2 (Nat.le_refl _)
    refine E.asg rfl rfl <| E.nil <| X.next <| C.seq <| C.region <| E.mv rfl rfl <| ?_
    refine E.call rfl rfl (CRC32_ret p l _ (hp.ext hx2)) ?_
    rintro _ w3 ⟨rfl, hx3⟩
    have hx3' := hx2.trans hx3
    refine E.mv rfl rfl <| ?_
    refine E.call rfl rfl (CRC32_ret q m _ (hq.ext hx3')) ?_
    rintro _ w4 ⟨rfl, hx4⟩
    have hx4' := hx3'.trans hx4
    refine E.mv rfl rfl <| ?_
    refine E.lenv rfl hq.shape Try.underlying22 rfl ?_
    refine E.call rfl rfl (Combine_ret _ _ (m.length : Int) _ (by omega)) ?_
    rintro _ _ ⟨rfl, rfl⟩
    have hv : combV (Crc.crc l) (Crc.crc m) (m.length : Int) = .tuple #[u32 (Crc.crc (([] ++ l) ++ m)), i64 0] := by
      rw [combV, if_neg (by omega), List.nil_append, Crc.crc_append]; rfl
    rw [hv]
    refine E.mv rfl rfl <| E.ext rfl rfl rfl <| E.ext rfl rfl rfl <| E.asg rfl rfl <| E.asg rfl rfl <| E.nil <| X.next <| C.seq <| C.region <| E.mv rfl rfl <| E.bin rfl rfl rfl rfl <| E.mv rfl rfl <| ?_
    refine E.on rfl rfl (E.mv rfl rfl ?_)
    refine E.on rfl rfl (E.mv rfl rfl ?_)
    refine E.on rfl rfl (E.call rfl rfl (CRC32_ret b _ _ ((ho2.kept (hx3.trans hx4)).rd)) ?_)
    rintro _ w5 ⟨rfl, hx5⟩
    refine E.on rfl rfl (E.binw rfl rfl rfl (beqT rfl) rfl ?_)
    refine E.pick rfl rfl rfl <| E.mv rfl rfl <| ?_
    refine E.on rfl rfl (E.call rfl rfl (exampleHolds_ret _) ?_)
    rintro _ w6 ⟨rfl, hx6⟩
    refine E.pick rfl rfl rfl <| E.asg rfl rfl <| E.nil <| X.next <| C.ret <| ret1 rfl rfl ?_
    exact ⟨rfl, (hx4'.trans hx5).trans hx6⟩
end Go.Proofs.Ytmekdfkcjhgkdaa
