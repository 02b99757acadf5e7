/- The law ChecksumBytes: its walk. -/
import Derived.Test.YtmekdfkcjhgkdaaEx06
import Derived.Test.YtmekdfkcjhgkdaaSymQ
import Derived.Test.YtmekdfkcjhgkdaaCrcMore
import Derived.Test.YtmekdfkcjhgkdaaFrame
namespace Go.Proofs.Ytmekdfkcjhgkdaa
open Go.RowKit Sym

theorem elem_Tuint8 : Elem Try.prog 5 1 1 := elem_of (z := .int .u8 0) (by kernel_rfl) rfl (by decide)
theorem bytes_eq (l : List UInt8) (i : Nat) (c : UInt8) (h : i < l.length) : (decide (((Adler.sum (l.set i c) : Nat) : Int) = ((Adler.sum l : Nat) : Int)) == decide ((c.toNat : Int) = (l[i].toNat : Int))) = true := by
  have := adler_byte l i c h
  have e : ((c.toNat : Int) = (l[i].toNat : Int)) ↔ c = l[i] := by
    rw [← UInt8.toNat_inj]; omega
  rw [beq_iff_eq]
  apply decide_eq_decide.2
  rw [e, ← this]; omega
theorem ChecksumBytes_ret (p : Value) (l : List UInt8) (at_ to : Int) (w : World) (hp : RdL u8 w p l) (wa : (Lit.int .u16 at_).wf = true) (wt : (Lit.int .u8 to).wf = true) :
    Ret Try.prog 11 #[p, .int .u16 at_, .int .u8 to] w fun v w' => v = .bool true ∧ Ext w w' := by
  have hle := Rd.le hp
  have ha := wf_u16 wa
  obtain ⟨c, rfl⟩ : ∃ c : UInt8, to = (c.toNat : Int) := ⟨UInt8.ofNat to.toNat, by have := wf_u8 wt; simp; omega⟩
  clear wa wt
  refine enter Try.func11 rfl (by kernel_rfl) Try.ntmps11 rfl ?_
  refine C.seq <| C.region <| E.asg rfl rfl <| E.nil <| X.next <| C.seq <| C.seq <| C.region <| E.mv rfl rfl <| ?_
  refine E.len rfl hp Try.underlying22 rfl ?_
  refine E.bin rfl rfl rfl rfl <| E.mv rfl rfl <| ?_
  by_cases hl : (2000 : Int) < (l.length : Int)
  case pos =>
    rw [decide_eq_true hl]
    refine E.off rfl rfl rfl rfl <| E.off rfl rfl rfl rfl <| E.off rfl rfl rfl rfl <| E.pick rfl rfl rfl <| E.nil <| X.next <| C.condT rfl <| C.seq <| C.region ?_
    refine E.call rfl rfl (exampleHolds_ret _) ?_
    rintro _ w1 ⟨rfl, hx1⟩
    refine E.asg rfl rfl <| E.nil <| X.next <| C.ret <| X.retT <| ret1 rfl rfl ?_
    exact ⟨rfl, hx1⟩
  rw [decide_eq_false hl]
  refine E.on rfl rfl (E.mv rfl rfl ?_)
  refine E.on rfl rfl (E.len rfl hp Try.underlying22 rfl ?_)
  refine E.on rfl rfl (E.bin rfl rfl rfl rfl ?_)
  refine E.pick rfl rfl rfl <| E.nil <| X.next <| ?_
  refine C.cond' rfl (fun hc => ?_) (fun hc => ?_)
  ·
    refine C.seq <| C.region <| ?_
    refine E.call rfl rfl (exampleHolds_ret _) ?_
    rintro _ w1 ⟨rfl, hx1⟩
    refine E.asg rfl rfl <| E.nil <| X.next <| C.ret <| X.retT <| ret1 rfl rfl ?_
    exact ⟨rfl, hx1⟩
  ·
    refine C.skip <| X.next <| C.seq <| C.region <| E.asg rfl rfl <| E.nil <| X.next <| C.seq <| C.region <| E.mv rfl rfl <| E.mv rfl rfl <| ?_
    refine E.appendL rfl rfl Try.underlying22 elem_Tuint8 (OwnL.nil _ _ w.heap.size _) hp (fun _ => rfl) (by simp; omega) (by simp; omega) (Nat.le_refl _) rfl ?_
    intro q w1 ho1 hg1 _
    have hx1 : Ext w w1 := (Ext.refl w).own (OwnL.nil u8 w w.heap.size 5) hg1 (Nat.le_refl _)
    rw [List.nil_append] at ho1
    refine E.asg rfl rfl <| E.nil <| X.next <| C.seq <| C.region <| E.mv rfl rfl <| ?_
    refine E.conv rfl Try.underlying27 Try.underlying3 (IntWalk.i64_in _ (by omega)) rfl ?_
    refine E.mv rfl rfl <| ?_
    refine E.lenv rfl hp.shape Try.underlying22 rfl ?_
    refine E.rem rfl rfl (by omega) (IntWalk.rem_in _ _ (by omega)) rfl ?_
    obtain ⟨i, hi⟩ : ∃ i : Nat, at_ % (l.length : Int) = i := ⟨(at_ % (l.length : Int)).toNat, (Int.toNat_of_nonneg (Int.emod_nonneg _ (by omega))).symm⟩
    have hil : i < l.length := by have := Int.emod_lt_of_pos at_ (show (0 : Int) < l.length by omega); omega
    rw [hi]
    clear hi
    refine E.asg rfl rfl <| E.nil <| X.next <| C.seq <| C.region <| E.mv rfl rfl <| E.mv rfl rfl <| E.mv rfl rfl <| ?_
    refine E.idx (sz := 1) rfl rfl ho1.rd Try.underlying22 (by kernel_rfl) (by omega) (by omega) (by decide) rfl ?_
    rw [show (i : Int).toNat * 1 = i from by omega]
    obtain ⟨c1, c2, c3⟩ := ho1.cellAt hil
    refine E.store rfl rfl (by kernel_rfl) rfl c1 c2 ?_
    have ho2 := ho1.set hil c
    have hx2 : Ext w (w1.setCell (el q i) (u8 c)) := hx1.setCell (by have := (World.ownsRow.lt ho1 _ c3).1; exact this) _
    revert ho2 hx2
    change _ → _ → wpE _ _ _ _ _ _ (w1.setCell (el q i) (u8 c))
    generalize w1.setCell (el q i) (u8 c) = w2
    intro ho2 hx2
    have hp2 := hp.ext hx2

    refine E.nil <| X.next <| C.seq <| C.drawn (by kernel_rfl) (by kernel_rfl) <| ?_
    refine Q.mv rfl rfl ?_
    refine Q.call (v := w32 (Adler.sum (l.set i c))) rfl rfl (fun w' hw' => (Adler32_ret q _ w' (ho2.rd.ext hw')).mono fun _ _ ⟨h1, h2⟩ => ⟨h1, h2 ▸ Ext.refl _⟩) ?_
    refine Q.mv rfl rfl ?_
    refine Q.call (v := w32 (Adler.sum l)) rfl rfl (fun w' hw' => (Adler32_ret p _ w' (hp2.ext hw')).mono fun _ _ ⟨h1, h2⟩ => ⟨h1, h2 ▸ Ext.refl _⟩) ?_
    refine Q.bin rfl rfl rfl rfl ?_
    refine Q.mv rfl rfl ?_
    refine Q.mv rfl rfl ?_
    refine Q.mv rfl rfl ?_
    refine Q.idx (sz := 1) rfl rfl hp2 Try.underlying22 (by kernel_rfl) (by omega) (by omega) (by decide) rfl ?_
    rw [show (i : Int).toNat * 1 = i from by omega]
    refine Q.load rfl Try.underlying5 rfl (hp2.cell hil) rfl ?_
    refine Q.bin rfl rfl rfl rfl ?_
    refine Q.eqb rfl rfl Try.underlying4 rfl ?_
    rw [bytes_eq l i c hil]
    refine Q.mv rfl rfl ?_
    refine Q.on rfl rfl (Q.call (v := .bool true) rfl rfl (fun w' hw' => exampleHolds_ret w') ?_)
    refine Q.pick rfl rfl rfl ?_
    refine Q.asg rfl rfl ?_
    refine Q.nil <| fun w9 hx9 => X.next <| C.ret <| ret1 rfl rfl ?_
    exact ⟨rfl, hx2.trans hx9⟩
end Go.Proofs.Ytmekdfkcjhgkdaa
