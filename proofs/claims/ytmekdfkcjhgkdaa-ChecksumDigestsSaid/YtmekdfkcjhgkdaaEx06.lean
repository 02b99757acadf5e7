/- The chapter's examples hold. -/
import Derived.Test.YtmekdfkcjhgkdaaCrcB
import Derived.Test.YtmekdfkcjhgkdaaCrc16
import Derived.Test.YtmekdfkcjhgkdaaAdler
import Derived.Test.YtmekdfkcjhgkdaaDigest
namespace Go.Proofs.Ytmekdfkcjhgkdaa
open Go.RowKit Sym

/-- the bytes 123456789 -/
def ex9 : List UInt8 := [49, 50, 51, 52, 53, 54, 55, 56, 57]
theorem ex9_sum : ((~~~ Crc.reg (Crc.reg 0xffffffff#32 (cutL 0 3 ex9)) (cutL 3 9 ex9)).toNat : Int) = 3421780262 := by decide +kernel
theorem ex9_crc : ((Crc.crc ex9).toNat : Int) = 3421780262 := by decide +kernel
theorem ex9_crc16 : ((Crc16.crc ex9).toNat : Int) = 10673 := by decide +kernel
theorem ex9_adler : ((Adler.sum ex9 : Nat) : Int) = 152961502 := by decide +kernel
theorem nil_adler : ((Adler.sum [] : Nat) : Int) = 1 := by decide +kernel
theorem nil_crc16 : ((Crc16.crc []).toNat : Int) = 65535 := by decide +kernel
theorem bneF {a b : Int} (h : a = b) : Value.bool (decide (a ≠ b)) = .bool false := by rw [decide_eq_false (by simp [h])]
theorem beqT {a b : Int} (h : a = b) : Value.bool (decide (a = b)) = .bool true := by rw [decide_eq_true h]

theorem exampleHolds_ret (w : World) :
    Ret Try.prog 16 #[] w fun v w' => v = .bool true ∧ Ext w w' := by
  refine enter Try.func16 rfl (by kernel_rfl) Try.ntmps16 rfl ?_
  refine C.seq <| C.region <| E.asg rfl rfl <| E.nil <| X.next <| C.seq <| C.region <| ?_
  refine E.lit (cs := ex9.map u8) rfl (fun _ => by kernel_rfl) Try.underlying22 Try.underlying5 rfl (by decide) rfl rfl ?_
  intro p w1 hp0 hbp hsz1 hx1
  have hp : RdL u8 w1 p ex9 := hp0
  refine E.asg rfl rfl <| E.nil <| X.next <| C.seq <| C.region <| ?_
  refine E.call rfl rfl (NewDigest_ret _) ?_
  rintro _ _ ⟨rfl, rfl⟩
  have hb2 := Blk.new w1 54 (dgst 0xffffffff#32 0 true)
  have hx2 := Ext.new w1 (.cells (dgst 0xffffffff#32 0 true) 54)
  have hne : (bs p).1 ≠ w1.heap.size := by omega
  revert hb2 hx2 hne
  generalize w1.alloc (.cells (dgst 0xffffffff#32 0 true) 54) = w2
  generalize hB : w1.heap.size = B
  intro hb2 hx2 hne
  have hwB : w.heap.size ≤ B := by omega
  have hp2 : RdL u8 w2 p ex9 := hp.ext hx2
  have hxx2 : Ext w w2 := hx1.trans hx2
  refine E.asg rfl rfl <| E.nil <| X.next <| C.seq <| C.seq <| C.region <| E.mv rfl rfl <| E.eqnil rfl rfl Try.underlying42 rfl <| E.mv rfl rfl <| ?_
  refine E.on rfl rfl (E.mv rfl rfl ?_)
  refine E.on rfl rfl (E.mv rfl rfl ?_)
  refine E.on rfl rfl (E.slc (k := .i64) (k' := .i64) (sz := 1) 0 3 rfl (.inr ⟨rfl, rfl⟩) (.inl rfl) hp2 Try.underlying22 (by kernel_rfl) (by decide) (by decide) rfl ?_)
  intro q3 hq3 hbq3
  have hq3' : RdL u8 w2 q3 (cutL 0 3 ex9) := RdL.ofPart (by decide) (by decide) hq3
  refine E.on rfl rfl (E.call rfl rfl (Write_ret B _ _ _ w2 hb2 _ hq3' (by decide)) ?_)
  rintro _ w3 ⟨rfl, hb3, hg3⟩
  have hp3 : RdL u8 w3 p ex9 := Rd.other hp2 hg3 hne
  have hxx3 : Ext w w3 := hxx2.ofGrown hg3 hwB
  refine E.on rfl rfl (E.bin rfl rfl rfl rfl ?_)
  refine E.pick rfl rfl rfl <| E.mv rfl rfl <| ?_
  refine E.on rfl rfl (E.mv rfl rfl ?_)
  refine E.on rfl rfl (E.mv rfl rfl ?_)
  refine E.on rfl rfl (E.slc (k := .i64) (k' := .i64) (sz := 1) 3 9 rfl (.inl rfl) (.inr ⟨rfl, rfl⟩) hp3 Try.underlying22 (by kernel_rfl) (by decide) (by decide) rfl ?_)
  intro q6 hq6 hbq6
  have hq6' : RdL u8 w3 q6 (cutL 3 9 ex9) := RdL.ofPart (by decide) (by decide) hq6
  refine E.on rfl rfl (E.call rfl rfl (Write_ret B _ _ _ w3 hb3 _ hq6' (by decide)) ?_)
  rintro _ w4 ⟨rfl, hb4, hg4⟩
  have hp4 : RdL u8 w4 p ex9 := Rd.other hp3 hg4 hne
  have hxx4 : Ext w w4 := hxx3.ofGrown hg4 hwB
  refine E.on rfl rfl (E.bin rfl rfl rfl rfl ?_)
  refine E.pick rfl rfl rfl <| E.mv rfl rfl <| ?_
  refine E.on rfl rfl (E.mv rfl rfl ?_)
  refine E.on rfl rfl (E.call rfl rfl (Sum_ret B _ _ w4 hb4) ?_)
  rintro _ _ ⟨rfl, rfl⟩
  refine E.on rfl rfl (E.binw rfl rfl rfl (bneF ex9_sum) rfl ?_)
  refine E.pick rfl rfl rfl <| E.mv rfl rfl <| ?_
  refine E.on rfl rfl (E.mv rfl rfl ?_)
  refine E.on rfl rfl (E.call rfl rfl (Len_ret B _ _ _ hb4) ?_)
  rintro _ _ ⟨rfl, rfl⟩
  refine E.on rfl rfl (E.bin rfl rfl rfl rfl ?_)
  refine E.pick rfl rfl rfl <| E.nil <| X.next <| ?_
  refine C.condF rfl ?_
  refine C.skip <| X.next <| C.seq <| C.region <| ?_
  refine E.call rfl rfl (Combine_ret 5#32 3#32 0 _ (by decide)) ?_
  rintro _ _ ⟨rfl, rfl⟩
  refine E.mv rfl rfl <| E.ext rfl rfl rfl <| E.ext rfl rfl rfl <| E.asg rfl rfl <| E.asg rfl rfl <| E.nil <| X.next <| C.seq <| C.region <| E.mv rfl rfl <| ?_
  refine E.call rfl rfl (CRC32_ret p ex9 _ hp4) ?_
  rintro _ w5 ⟨rfl, hx5⟩
  have hp5 := hp4.ext hx5
  refine E.binw rfl rfl rfl (beqT ex9_crc) rfl <| E.mv rfl rfl <| ?_
  refine E.on rfl rfl (E.mv rfl rfl ?_)
  refine E.on rfl rfl (E.call rfl rfl (CRC16_ret p ex9 _ hp5) ?_)
  rintro _ w6 ⟨rfl, hx6⟩
  have hp6 := hp5.ext hx6
  refine E.on rfl rfl (E.binw rfl rfl rfl (beqT ex9_crc16) rfl ?_)
  refine E.pick rfl rfl rfl <| E.mv rfl rfl <| ?_
  refine E.on rfl rfl (E.mv rfl rfl ?_)
  refine E.on rfl rfl (E.call rfl rfl (Adler32_ret p ex9 _ hp6) ?_)
  rintro _ _ ⟨rfl, rfl⟩
  refine E.on rfl rfl (E.binw rfl rfl rfl (beqT ex9_adler) rfl ?_)
  refine E.pick rfl rfl rfl <| E.mv rfl rfl <| ?_
  refine E.on rfl rfl (E.call rfl rfl (Adler32_ret _ [] _ (RdL.nil _ _)) ?_)
  rintro _ _ ⟨rfl, rfl⟩
  refine E.on rfl rfl (E.binw rfl rfl rfl (beqT nil_adler) rfl ?_)
  refine E.pick rfl rfl rfl <| E.mv rfl rfl <| ?_
  refine E.on rfl rfl (E.call rfl rfl (CRC16_ret _ [] _ (RdL.nil _ _)) ?_)
  rintro _ w7 ⟨rfl, hx7⟩
  refine E.on rfl rfl (E.binw rfl rfl rfl (beqT nil_crc16) rfl ?_)
  refine E.pick rfl rfl rfl <| E.mv rfl rfl <| ?_
  refine E.on rfl rfl (E.mv rfl rfl ?_)
  refine E.on rfl rfl (E.bin rfl rfl rfl rfl ?_)
  refine E.pick rfl rfl rfl <| E.mv rfl rfl <| ?_
  refine E.on rfl rfl (E.mv rfl rfl ?_)
  refine E.on rfl rfl (E.bin rfl rfl rfl rfl ?_)
  refine E.pick rfl rfl rfl <| E.asg rfl rfl <| E.nil <| X.next <| C.ret <| ret1 rfl rfl ?_
  exact ⟨rfl, ((hxx4.trans hx5).trans hx6).trans hx7⟩
end Go.Proofs.Ytmekdfkcjhgkdaa
