/- What the digests of package checksum do. -/
import Derived.Test.YtmekdfkcjhgkdaaCrc
import Derived.Test.YtmekdfkcjhgkdaaSym4
namespace Go.Proofs.Ytmekdfkcjhgkdaa
open Go.RowKit Sym

/-- the cells of a digest -/
abbrev dgst (x : BitVec 32) (n : Int) (m : Bool) : Array Value := #[u32 x, i64 n, .bool m]

theorem NewDigest_ret (w : World) :
    Ret Try.prog 25 #[] w fun v w' => v = .pointer (some ⟨w.heap.size, 0, none⟩) ∧ w' = w.alloc (.cells (dgst 0xffffffff#32 0 true) 54) := by
  refine enter Try.func25 rfl (by kernel_rfl) Try.ntmps25 rfl ?_
  refine C.seq <| C.region <| E.asg rfl rfl <| E.nil <| X.next <| C.seq <| C.region <| ?_
  refine E.build (cs := [u32 0xffffffff#32, i64 0, .bool true]) rfl (by kernel_rfl) rfl ?_
  refine E.build (cs := [u32 0xffffffff#32, i64 0, .bool true]) rfl (by kernel_rfl) rfl ?_
  refine E.box rfl rfl ?_
  refine E.asg rfl rfl <| E.nil <| X.next <| C.ret <| ret1 rfl rfl ?_
  exact ⟨rfl, rfl⟩

theorem Write_no (b : Nat) (x : BitVec 32) (n : Int) (p : Value) (w : World) (hb : Blk w b 54 (dgst x n false)) :
    Ret Try.prog 26 #[.pointer (some ⟨b, 0, none⟩), p] w fun v w' => v = i64 2 ∧ w = w' := by
  refine enter Try.func26 rfl (by kernel_rfl) Try.ntmps26 rfl ?_
  refine C.seq <| C.region <| E.asg rfl rfl <| E.nil <| X.next <| C.seq <| C.seq <| C.region <| E.mv rfl rfl <| E.eqnil rfl rfl Try.underlying42 rfl <| E.mv rfl rfl <| ?_
  refine E.on rfl rfl (E.mv rfl rfl ?_)
  refine E.on rfl rfl (E.nilc rfl rfl ?_)
  refine E.on rfl rfl (E.fld (o := 0) (sz := 2) rfl Try.underlying54 rfl rfl (by kernel_rfl) rfl ?_)
  refine E.on rfl rfl (E.fld (o := 2) (sz := 0) rfl Try.underlying52 rfl rfl (by kernel_rfl) rfl ?_)
  refine E.on rfl rfl (E.load rfl Try.underlying4 rfl (hb.cell 2) rfl ?_)
  refine E.on rfl rfl (E.not rfl rfl ?_)
  refine E.pick rfl rfl rfl <| E.nil <| X.next <| ?_
  refine C.condT rfl ?_
  refine C.seq <| C.region <| E.asg rfl rfl <| E.nil <| X.next <| C.ret <| X.retT <| ret1 rfl rfl ?_
  exact ⟨rfl, rfl⟩

theorem Write_nil (p : Value) (w : World) :
    Ret Try.prog 26 #[.pointer none, p] w fun v w' => v = i64 2 ∧ w = w' := by
  refine enter Try.func26 rfl (by kernel_rfl) Try.ntmps26 rfl ?_
  refine C.seq <| C.region <| E.asg rfl rfl <| E.nil <| X.next <| C.seq <| C.seq <| C.region <| E.mv rfl rfl <| E.eqnil rfl rfl Try.underlying42 rfl <| E.mv rfl rfl <| ?_
  refine E.off rfl rfl rfl rfl ?_
  refine E.off rfl rfl rfl rfl ?_
  refine E.off rfl rfl rfl rfl ?_
  refine E.off rfl rfl rfl rfl ?_
  refine E.off rfl rfl rfl rfl ?_
  refine E.off rfl rfl rfl rfl ?_
  refine E.pick rfl rfl rfl <| E.nil <| X.next <| ?_
  refine C.condT rfl ?_
  refine C.seq <| C.region <| E.asg rfl rfl <| E.nil <| X.next <| C.ret <| X.retT <| ret1 rfl rfl ?_
  exact ⟨rfl, rfl⟩

theorem Write_ret (b : Nat) (x : BitVec 32) (n : Int) (p : Value) (w : World) (hb : Blk w b 54 (dgst x n true)) (l : List UInt8) (hp : RdL u8 w p l) (hn : -9223372036854775808 ≤ n + l.length ∧ n + l.length ≤ 9223372036854775807) :
    Ret Try.prog 26 #[.pointer (some ⟨b, 0, none⟩), p] w fun v w' => v = i64 0 ∧ Blk w' b 54 (dgst (Crc.reg x l) (n + l.length) true) ∧ w.grownBy w' (some b) := by
  refine enter Try.func26 rfl (by kernel_rfl) Try.ntmps26 rfl ?_
  refine C.seq <| C.region <| E.asg rfl rfl <| E.nil <| X.next <| C.seq <| C.seq <| C.region <| E.mv rfl rfl <| E.eqnil rfl rfl Try.underlying42 rfl <| E.mv rfl rfl <| ?_
  refine E.on rfl rfl (E.mv rfl rfl ?_)
  refine E.on rfl rfl (E.nilc rfl rfl ?_)
  refine E.on rfl rfl (E.fld (o := 0) (sz := 2) rfl Try.underlying54 rfl rfl (by kernel_rfl) rfl ?_)
  refine E.on rfl rfl (E.fld (o := 2) (sz := 0) rfl Try.underlying52 rfl rfl (by kernel_rfl) rfl ?_)
  refine E.on rfl rfl (E.load rfl Try.underlying4 rfl (hb.cell 2) rfl ?_)
  refine E.on rfl rfl (E.not rfl rfl ?_)
  refine E.pick rfl rfl rfl <| E.nil <| X.next <| ?_
  refine C.condF rfl ?_
  refine C.skip <| X.next <| C.seq <| C.region <| E.mv rfl rfl <| E.mv rfl rfl <| E.nilc rfl rfl <| ?_
  refine E.fld (o := 0) (sz := 2) rfl Try.underlying54 rfl rfl (by kernel_rfl) rfl ?_
  refine E.fld (o := 0) (sz := 0) rfl Try.underlying52 rfl rfl (by kernel_rfl) rfl ?_
  refine E.load rfl Try.underlying23 rfl (hb.cell 0) rfl ?_
  refine E.mv rfl rfl <| ?_
  refine E.call rfl rfl (update_ret x p l w hp) ?_
  rintro _ w1 ⟨rfl, hx1⟩
  have hb1 := hb.ext hx1
  refine E.nilc rfl rfl <| ?_
  refine E.fld (o := 0) (sz := 2) rfl Try.underlying54 rfl rfl (by kernel_rfl) rfl ?_
  refine E.fld (o := 0) (sz := 0) rfl Try.underlying52 rfl rfl (by kernel_rfl) rfl ?_
  refine E.store rfl rfl (by kernel_rfl) rfl (hb1.cell 0) (hb1.frozen 0) ?_
  have hb2 : Blk (w1.setCell ⟨b, 0, none⟩ (u32 (Crc.reg x l))) b 54 (dgst (Crc.reg x l) n true) := hb1.set 0 _
  refine E.nil <| X.next <| C.seq <| C.region <| E.mv rfl rfl <| E.nilc rfl rfl <| ?_
  refine E.fld (o := 0) (sz := 2) rfl Try.underlying54 rfl rfl (by kernel_rfl) rfl ?_
  refine E.fld (o := 1) (sz := 0) rfl Try.underlying52 rfl rfl (by kernel_rfl) rfl ?_
  refine E.load rfl Try.underlying3 rfl (hb2.cell 1) rfl ?_
  refine E.mv rfl rfl <| ?_
  refine E.lenv rfl hp.shape Try.underlying22 rfl ?_
  refine E.add rfl rfl hn rfl ?_
  refine E.nilc rfl rfl <| ?_
  refine E.fld (o := 0) (sz := 2) rfl Try.underlying54 rfl rfl (by kernel_rfl) rfl ?_
  refine E.fld (o := 1) (sz := 0) rfl Try.underlying52 rfl rfl (by kernel_rfl) rfl ?_
  refine E.store rfl rfl (by kernel_rfl) rfl (hb2.cell 1) (hb2.frozen 1) ?_
  refine E.nil <| X.next <| C.seq <| C.region <| E.asg rfl rfl <| E.nil <| X.next <| C.ret <| ret1 rfl rfl ?_
  exact ⟨rfl, hb2.set 1 _, grown_trans (grown_trans (hx1.toGrown _) (grown_set w1 ⟨b, 0, none⟩ _)) (grown_set _ ⟨b, 1, none⟩ _)⟩

theorem Clone_no (b : Nat) (x : BitVec 32) (n : Int) (w : World) (hb : Blk w b 54 (dgst x n false)) :
    Ret Try.prog 27 #[.pointer (some ⟨b, 0, none⟩)] w fun v w' => v = .pointer none ∧ w = w' := by
  refine enter Try.func27 rfl (by kernel_rfl) Try.ntmps27 rfl ?_
  refine C.seq <| C.region <| E.asg rfl rfl <| E.nil <| X.next <| C.seq <| C.seq <| C.region <| E.mv rfl rfl <| E.eqnil rfl rfl Try.underlying42 rfl <| E.mv rfl rfl <| ?_
  refine E.on rfl rfl (E.mv rfl rfl ?_)
  refine E.on rfl rfl (E.nilc rfl rfl ?_)
  refine E.on rfl rfl (E.fld (o := 0) (sz := 2) rfl Try.underlying54 rfl rfl (by kernel_rfl) rfl ?_)
  refine E.on rfl rfl (E.fld (o := 2) (sz := 0) rfl Try.underlying52 rfl rfl (by kernel_rfl) rfl ?_)
  refine E.on rfl rfl (E.load rfl Try.underlying4 rfl (hb.cell 2) rfl ?_)
  refine E.on rfl rfl (E.not rfl rfl ?_)
  refine E.pick rfl rfl rfl <| E.nil <| X.next <| ?_
  refine C.condT rfl ?_
  refine C.seq <| C.region <| E.asg rfl rfl <| E.nil <| X.next <| C.ret <| X.retT <| ret1 rfl rfl ?_
  exact ⟨rfl, rfl⟩

theorem Clone_nil (w : World) :
    Ret Try.prog 27 #[.pointer none] w fun v w' => v = .pointer none ∧ w = w' := by
  refine enter Try.func27 rfl (by kernel_rfl) Try.ntmps27 rfl ?_
  refine C.seq <| C.region <| E.asg rfl rfl <| E.nil <| X.next <| C.seq <| C.seq <| C.region <| E.mv rfl rfl <| E.eqnil rfl rfl Try.underlying42 rfl <| E.mv rfl rfl <| ?_
  refine E.off rfl rfl rfl rfl ?_
  refine E.off rfl rfl rfl rfl ?_
  refine E.off rfl rfl rfl rfl ?_
  refine E.off rfl rfl rfl rfl ?_
  refine E.off rfl rfl rfl rfl ?_
  refine E.off rfl rfl rfl rfl ?_
  refine E.pick rfl rfl rfl <| E.nil <| X.next <| ?_
  refine C.condT rfl ?_
  refine C.seq <| C.region <| E.asg rfl rfl <| E.nil <| X.next <| C.ret <| X.retT <| ret1 rfl rfl ?_
  exact ⟨rfl, rfl⟩

theorem Clone_ret (b : Nat) (x : BitVec 32) (n : Int) (w : World) (hb : Blk w b 54 (dgst x n true)) :
    Ret Try.prog 27 #[.pointer (some ⟨b, 0, none⟩)] w fun v w' => v = .pointer (some ⟨w.heap.size, 0, none⟩) ∧ w' = w.alloc (.cells (dgst x n true) 54) := by
  refine enter Try.func27 rfl (by kernel_rfl) Try.ntmps27 rfl ?_
  refine C.seq <| C.region <| E.asg rfl rfl <| E.nil <| X.next <| C.seq <| C.seq <| C.region <| E.mv rfl rfl <| E.eqnil rfl rfl Try.underlying42 rfl <| E.mv rfl rfl <| ?_
  refine E.on rfl rfl (E.mv rfl rfl ?_)
  refine E.on rfl rfl (E.nilc rfl rfl ?_)
  refine E.on rfl rfl (E.fld (o := 0) (sz := 2) rfl Try.underlying54 rfl rfl (by kernel_rfl) rfl ?_)
  refine E.on rfl rfl (E.fld (o := 2) (sz := 0) rfl Try.underlying52 rfl rfl (by kernel_rfl) rfl ?_)
  refine E.on rfl rfl (E.load rfl Try.underlying4 rfl (hb.cell 2) rfl ?_)
  refine E.on rfl rfl (E.not rfl rfl ?_)
  refine E.pick rfl rfl rfl <| E.nil <| X.next <| ?_
  refine C.condF rfl ?_
  refine C.skip <| X.next <| C.seq <| C.region <| E.mv rfl rfl <| E.nilc rfl rfl <| ?_
  refine E.fld (o := 0) (sz := 2) rfl Try.underlying54 rfl rfl (by kernel_rfl) rfl ?_
  refine E.loadA (cs := [u32 x, i64 n, .bool true]) rfl Try.underlying52 rfl (by kernel_rfl) (hb.at 0 _ fun j u hu => by rw [Nat.zero_add]; simpa using hu) rfl ?_
  refine E.build (cs := [u32 x, i64 n, .bool true]) rfl (by kernel_rfl) rfl ?_
  refine E.box rfl rfl ?_
  refine E.asg rfl rfl <| E.nil <| X.next <| C.ret <| ret1 rfl rfl ?_
  exact ⟨rfl, rfl⟩

theorem Sum_no (b : Nat) (x : BitVec 32) (n : Int) (w : World) (hb : Blk w b 54 (dgst x n false)) :
    Ret Try.prog 28 #[.pointer (some ⟨b, 0, none⟩)] w fun v w' => v = .int .u32 0 ∧ w = w' := by
  refine enter Try.func28 rfl (by kernel_rfl) Try.ntmps28 rfl ?_
  refine C.seq <| C.region <| E.asg rfl rfl <| E.nil <| X.next <| C.seq <| C.seq <| C.region <| E.mv rfl rfl <| E.eqnil rfl rfl Try.underlying42 rfl <| E.mv rfl rfl <| ?_
  refine E.on rfl rfl (E.mv rfl rfl ?_)
  refine E.on rfl rfl (E.nilc rfl rfl ?_)
  refine E.on rfl rfl (E.fld (o := 0) (sz := 2) rfl Try.underlying54 rfl rfl (by kernel_rfl) rfl ?_)
  refine E.on rfl rfl (E.fld (o := 2) (sz := 0) rfl Try.underlying52 rfl rfl (by kernel_rfl) rfl ?_)
  refine E.on rfl rfl (E.load rfl Try.underlying4 rfl (hb.cell 2) rfl ?_)
  refine E.on rfl rfl (E.not rfl rfl ?_)
  refine E.pick rfl rfl rfl <| E.nil <| X.next <| ?_
  refine C.condT rfl ?_
  refine C.seq <| C.region <| E.asg rfl rfl <| E.nil <| X.next <| C.ret <| X.retT <| ret1 rfl rfl ?_
  exact ⟨rfl, rfl⟩

theorem Sum_nil (w : World) :
    Ret Try.prog 28 #[.pointer none] w fun v w' => v = .int .u32 0 ∧ w = w' := by
  refine enter Try.func28 rfl (by kernel_rfl) Try.ntmps28 rfl ?_
  refine C.seq <| C.region <| E.asg rfl rfl <| E.nil <| X.next <| C.seq <| C.seq <| C.region <| E.mv rfl rfl <| E.eqnil rfl rfl Try.underlying42 rfl <| E.mv rfl rfl <| ?_
  refine E.off rfl rfl rfl rfl ?_
  refine E.off rfl rfl rfl rfl ?_
  refine E.off rfl rfl rfl rfl ?_
  refine E.off rfl rfl rfl rfl ?_
  refine E.off rfl rfl rfl rfl ?_
  refine E.off rfl rfl rfl rfl ?_
  refine E.pick rfl rfl rfl <| E.nil <| X.next <| ?_
  refine C.condT rfl ?_
  refine C.seq <| C.region <| E.asg rfl rfl <| E.nil <| X.next <| C.ret <| X.retT <| ret1 rfl rfl ?_
  exact ⟨rfl, rfl⟩

theorem Sum_ret (b : Nat) (x : BitVec 32) (n : Int) (w : World) (hb : Blk w b 54 (dgst x n true)) :
    Ret Try.prog 28 #[.pointer (some ⟨b, 0, none⟩)] w fun v w' => v = u32 (~~~ x) ∧ w = w' := by
  refine enter Try.func28 rfl (by kernel_rfl) Try.ntmps28 rfl ?_
  refine C.seq <| C.region <| E.asg rfl rfl <| E.nil <| X.next <| C.seq <| C.seq <| C.region <| E.mv rfl rfl <| E.eqnil rfl rfl Try.underlying42 rfl <| E.mv rfl rfl <| ?_
  refine E.on rfl rfl (E.mv rfl rfl ?_)
  refine E.on rfl rfl (E.nilc rfl rfl ?_)
  refine E.on rfl rfl (E.fld (o := 0) (sz := 2) rfl Try.underlying54 rfl rfl (by kernel_rfl) rfl ?_)
  refine E.on rfl rfl (E.fld (o := 2) (sz := 0) rfl Try.underlying52 rfl rfl (by kernel_rfl) rfl ?_)
  refine E.on rfl rfl (E.load rfl Try.underlying4 rfl (hb.cell 2) rfl ?_)
  refine E.on rfl rfl (E.not rfl rfl ?_)
  refine E.pick rfl rfl rfl <| E.nil <| X.next <| ?_
  refine C.condF rfl ?_
  refine C.skip <| X.next <| C.seq <| C.region <| E.mv rfl rfl <| E.nilc rfl rfl <| ?_
  refine E.fld (o := 0) (sz := 2) rfl Try.underlying54 rfl rfl (by kernel_rfl) rfl ?_
  refine E.fld (o := 0) (sz := 0) rfl Try.underlying52 rfl rfl (by kernel_rfl) rfl ?_
  refine E.load rfl Try.underlying23 rfl (hb.cell 0) rfl ?_
  refine E.flip rfl (flip32 _) rfl ?_
  refine E.asg rfl rfl <| E.nil <| X.next <| C.ret <| ret1 rfl rfl ?_
  exact ⟨rfl, rfl⟩

theorem Len_no (b : Nat) (x : BitVec 32) (n : Int) (w : World) (hb : Blk w b 54 (dgst x n false)) :
    Ret Try.prog 29 #[.pointer (some ⟨b, 0, none⟩)] w fun v w' => v = i64 0 ∧ w = w' := by
  refine enter Try.func29 rfl (by kernel_rfl) Try.ntmps29 rfl ?_
  refine C.seq <| C.region <| E.asg rfl rfl <| E.nil <| X.next <| C.seq <| C.seq <| C.region <| E.mv rfl rfl <| E.eqnil rfl rfl Try.underlying42 rfl <| E.mv rfl rfl <| ?_
  refine E.on rfl rfl (E.mv rfl rfl ?_)
  refine E.on rfl rfl (E.nilc rfl rfl ?_)
  refine E.on rfl rfl (E.fld (o := 0) (sz := 2) rfl Try.underlying54 rfl rfl (by kernel_rfl) rfl ?_)
  refine E.on rfl rfl (E.fld (o := 2) (sz := 0) rfl Try.underlying52 rfl rfl (by kernel_rfl) rfl ?_)
  refine E.on rfl rfl (E.load rfl Try.underlying4 rfl (hb.cell 2) rfl ?_)
  refine E.on rfl rfl (E.not rfl rfl ?_)
  refine E.pick rfl rfl rfl <| E.nil <| X.next <| ?_
  refine C.condT rfl ?_
  refine C.seq <| C.region <| E.asg rfl rfl <| E.nil <| X.next <| C.ret <| X.retT <| ret1 rfl rfl ?_
  exact ⟨rfl, rfl⟩

theorem Len_nil (w : World) :
    Ret Try.prog 29 #[.pointer none] w fun v w' => v = i64 0 ∧ w = w' := by
  refine enter Try.func29 rfl (by kernel_rfl) Try.ntmps29 rfl ?_
  refine C.seq <| C.region <| E.asg rfl rfl <| E.nil <| X.next <| C.seq <| C.seq <| C.region <| E.mv rfl rfl <| E.eqnil rfl rfl Try.underlying42 rfl <| E.mv rfl rfl <| ?_
  refine E.off rfl rfl rfl rfl ?_
  refine E.off rfl rfl rfl rfl ?_
  refine E.off rfl rfl rfl rfl ?_
  refine E.off rfl rfl rfl rfl ?_
  refine E.off rfl rfl rfl rfl ?_
  refine E.off rfl rfl rfl rfl ?_
  refine E.pick rfl rfl rfl <| E.nil <| X.next <| ?_
  refine C.condT rfl ?_
  refine C.seq <| C.region <| E.asg rfl rfl <| E.nil <| X.next <| C.ret <| X.retT <| ret1 rfl rfl ?_
  exact ⟨rfl, rfl⟩

theorem Len_ret (b : Nat) (x : BitVec 32) (n : Int) (w : World) (hb : Blk w b 54 (dgst x n true)) :
    Ret Try.prog 29 #[.pointer (some ⟨b, 0, none⟩)] w fun v w' => v = i64 n ∧ w = w' := by
  refine enter Try.func29 rfl (by kernel_rfl) Try.ntmps29 rfl ?_
  refine C.seq <| C.region <| E.asg rfl rfl <| E.nil <| X.next <| C.seq <| C.seq <| C.region <| E.mv rfl rfl <| E.eqnil rfl rfl Try.underlying42 rfl <| E.mv rfl rfl <| ?_
  refine E.on rfl rfl (E.mv rfl rfl ?_)
  refine E.on rfl rfl (E.nilc rfl rfl ?_)
  refine E.on rfl rfl (E.fld (o := 0) (sz := 2) rfl Try.underlying54 rfl rfl (by kernel_rfl) rfl ?_)
  refine E.on rfl rfl (E.fld (o := 2) (sz := 0) rfl Try.underlying52 rfl rfl (by kernel_rfl) rfl ?_)
  refine E.on rfl rfl (E.load rfl Try.underlying4 rfl (hb.cell 2) rfl ?_)
  refine E.on rfl rfl (E.not rfl rfl ?_)
  refine E.pick rfl rfl rfl <| E.nil <| X.next <| ?_
  refine C.condF rfl ?_
  refine C.skip <| X.next <| C.seq <| C.region <| E.mv rfl rfl <| E.nilc rfl rfl <| ?_
  refine E.fld (o := 0) (sz := 2) rfl Try.underlying54 rfl rfl (by kernel_rfl) rfl ?_
  refine E.fld (o := 1) (sz := 0) rfl Try.underlying52 rfl rfl (by kernel_rfl) rfl ?_
  refine E.load rfl Try.underlying3 rfl (hb.cell 1) rfl ?_
  refine E.asg rfl rfl <| E.nil <| X.next <| C.ret <| ret1 rfl rfl ?_
  exact ⟨rfl, rfl⟩
end Go.Proofs.Ytmekdfkcjhgkdaa
