/- The law ChecksumBursts: its walk. -/
import Derived.Test.YtmekdfkcjhgkdaaEx06
import Derived.Test.YtmekdfkcjhgkdaaSymQ
import Derived.Test.YtmekdfkcjhgkdaaCrcMore
import Derived.Test.YtmekdfkcjhgkdaaFrame
namespace Go.Proofs.Ytmekdfkcjhgkdaa
open Go.RowKit Sym

theorem elem_Tuint8 : Elem Try.prog 5 1 1 := elem_of (z := .int .u8 0) (by kernel_rfl) rfl (by decide)
theorem xor8 (c d : UInt8) : bits .xor .u8 (c.toNat : Int) (d.toNat : Int) = ((c ^^^ d).toNat : Int) := by
  rw [u8_xor_nat _ _ (u8_lt c) (u8_lt d), UInt8.toNat_xor]
theorem shlL (t : Nat) : IntKind.u8.wrap (1 * 2 ^ min ((t : Int) % 8).toNat IntKind.u8.bits) = ((bitL t).toNat : Int) := by
  have h : ∀ s, s < 8 → IntKind.u8.wrap (1 * 2 ^ min s IntKind.u8.bits) = ((UInt8.ofNat (2 ^ s)).toNat : Int) := by decide
  rw [show ((t : Int) % 8).toNat = t % 8 by omega, h _ (Nat.mod_lt _ (by decide))]; rfl
theorem shrH (t : Nat) : (128 : Int) / 2 ^ min ((t : Int) % 8).toNat IntKind.u8.bits = ((bitH t).toNat : Int) := by
  have h : ∀ s, s < 8 → (128 : Int) / 2 ^ min s IntKind.u8.bits = ((UInt8.ofNat (128 / 2 ^ s)).toNat : Int) := by decide
  rw [show ((t : Int) % 8).toNat = t % 8 by omega, h _ (Nat.mod_lt _ (by decide))]; rfl
theorem quoM (m k : Nat) (h : m < 4294967296) : IntKind.u32.wrap (((m / 2 ^ k : Nat) : Int).tdiv 2) = ((m / 2 ^ (k + 1) : Nat) : Int) := by
  have h1 : m / 2 ^ k < 4294967296 := Nat.lt_of_le_of_lt (Nat.div_le_self _ _) h
  rw [Nat.pow_succ, ← Nat.div_div_eq_div_mul]
  generalize m / 2 ^ k = c at h1 ⊢
  rw [Int.tdiv_eq_ediv_of_nonneg (by omega), IntWalk.u32_in _ (by omega)]; rfl
theorem flipTo_hit (high : Bool) (l : List UInt8) (at_ mask k : Nat) (h : hits l.length at_ mask k = true) (hj : (at_ + k) / 8 < (flipTo high l at_ mask k).length) :
    flipTo high l at_ mask (k + 1) = (flipTo high l at_ mask k).set ((at_ + k) / 8) ((flipTo high l at_ mask k)[(at_ + k) / 8] ^^^ (if high then bitH (at_ + k) else bitL (at_ + k))) := by
  rw [flipTo, if_pos h]
  show List.set _ _ (List.getD _ _ _ ^^^ _) = _
  rw [List.getD_eq_getElem?_getD, List.getElem?_eq_getElem hj]; rfl
theorem flipTo_miss (high : Bool) (l : List UInt8) (at_ mask k : Nat) (h : hits l.length at_ mask k = false) : flipTo high l at_ mask (k + 1) = flipTo high l at_ mask k := by
  rw [flipTo, if_neg (by simp [h])]
theorem any_succ (n at_ mask k : Nat) (b : Bool) (h : hits n at_ mask k = b) : anyTo n at_ mask (k + 1) = (anyTo n at_ mask k || b) := by rw [anyTo, h]
theorem flipped_ret (p : Value) (l : List UInt8) (at_ mask wide : Nat) (high : Bool) (w : World) (hp : RdL u8 w p l) (hat : at_ ≤ 1000000) (hm : mask < 4294967296) (hw : wide ≤ 64) (hl : l.length ≤ 1000) :
    Ret Try.prog 23 #[p, i64 at_, .int .u32 (mask : Int), i64 wide, .bool high] w fun v w' => ∃ q, v = .tuple #[q, .bool (anyTo l.length at_ mask wide)] ∧ RdL u8 w' q (flipTo high l at_ mask wide) ∧ Ext w w' := by
  have hle := Rd.le hp
  refine enter Try.func23 rfl (by kernel_rfl) Try.ntmps23 rfl ?_
  refine C.seq <| C.region <| E.asg rfl rfl <| E.asg rfl rfl <| E.nil <| X.next <| C.seq <| C.region <| E.asg rfl rfl <| E.nil <| X.next <| C.seq <| C.region <| E.mv rfl rfl <| E.mv rfl rfl <| ?_
  refine E.appendL rfl rfl Try.underlying22 elem_Tuint8 (OwnL.nil _ _ w.heap.size _) hp (fun _ => rfl) (by simp; omega) (by simp; omega) (Nat.le_refl _) rfl ?_
  intro q w1 ho1 hg1 _
  have hx1 : Ext w w1 := (Ext.refl w).own (OwnL.nil u8 w w.heap.size 5) hg1 (Nat.le_refl _)
  rw [List.nil_append] at ho1
  refine E.asg rfl rfl <| E.nil <| X.next <| C.seq <| C.region <| E.asg rfl rfl <| E.nil <| X.next <| C.seq <| C.seq <| C.region <| E.asg rfl rfl <| E.nil <| X.next <| C.block <| ?_

  refine C.loop (G := Nat) (fun k => [(1, i64 at_), (2, .int .u32 ((mask / 2 ^ k : Nat) : Int)), (3, i64 wide), (4, .bool high), (12, q), (13, .bool (anyTo l.length at_ mask k)), (14, i64 k)]) (fun k w' => k ≤ wide ∧ OwnL u8 w' w.heap.size 5 q (flipTo high l at_ mask k) ∧ Ext w w') (fun k => wide - k) 0 ?_ ?_ ?_
  · exact Sub.cons rfl <| Sub.cons (by rw [Nat.pow_zero, Nat.div_one]; rfl) <| Sub.cons rfl <| Sub.cons rfl <| Sub.cons rfl <| Sub.cons rfl <| Sub.cons rfl <| Sub.nil _
  · exact ⟨by omega, ho1, hx1⟩
  · rintro k wk ⟨hk, ho, hx⟩
    have hlen := flipTo_len high l at_ mask k
    refine C.seq <| C.seq <| C.region <| E.mv rfl rfl <| E.mv rfl rfl <| E.bin rfl rfl rfl rfl <| E.nil <| X.next <| ?_
    refine C.cond' rfl (fun hc => ?_) (fun hc => ?_)
    ·
      refine C.skip <| X.next <| C.seq <| C.block <| C.seq <| C.region <| E.mv rfl rfl <| E.mv rfl rfl <| ?_
      refine E.add rfl rfl (by omega) rfl ?_
      rw [show (at_ : Int) + (k : Int) = ((at_ + k : Nat) : Int) from by omega]
      refine E.asg rfl rfl <| E.nil <| X.next <| ?_

      refine C.cut (G := Unit) (fun _ => [(1, i64 at_), (2, .int .u32 ((mask / 2 ^ k : Nat) : Int)), (3, i64 wide), (4, .bool high), (12, q), (13, .bool (anyTo l.length at_ mask (k + 1))), (14, i64 k)]) (fun _ w' => OwnL u8 w' w.heap.size 5 q (flipTo high l at_ mask (k + 1)) ∧ Ext w w') ?_ ?_
      ·
        refine C.seq <| C.region <| E.mv rfl rfl <| ?_
        refine E.rem rfl rfl (by omega) (IntWalk.rem_in _ _ (Int.natCast_nonneg _)) rfl ?_
        refine E.bin rfl rfl rfl rfl <| E.mv rfl rfl <| ?_
        by_cases hb : ((mask / 2 ^ k : Nat) : Int) % 2 = 1
        case neg =>
          have hit : hits l.length at_ mask k = false := by rw [hits, decide_eq_false_iff_not]; omega
          rw [decide_eq_false hb]
          refine E.off rfl rfl rfl rfl <| E.off rfl rfl rfl rfl <| E.off rfl rfl rfl rfl <| E.off rfl rfl rfl rfl <| E.off rfl rfl rfl rfl <| E.pick rfl rfl rfl <| E.nil <| X.next <| C.condF rfl <| C.skip <| X.join () (Sub.cons rfl <| Sub.cons rfl <| Sub.cons rfl <| Sub.cons rfl <| Sub.cons rfl <| Sub.cons (by rw [any_succ _ _ _ _ _ hit, Bool.or_false]; rfl) <| Sub.cons rfl <| Sub.nil _) ⟨by rw [flipTo_miss _ _ _ _ _ hit]; exact ho, hx⟩
        rw [decide_eq_true hb]
        refine E.on rfl rfl (E.mv rfl rfl ?_)
        refine E.on rfl rfl (E.mv rfl rfl ?_)
        refine E.on rfl rfl (E.lenv rfl ho.rd.shape Try.underlying22 rfl ?_)
        refine E.on rfl rfl (E.mul rfl rfl (by omega) rfl ?_)
        refine E.on rfl rfl (E.bin rfl rfl rfl rfl ?_)
        refine E.pick rfl rfl rfl <| E.nil <| X.next <| ?_
        refine C.cond' rfl (fun hc => ?_) (fun hc => ?_)
        ·
          have hit : hits l.length at_ mask k = true := by rw [hits, decide_eq_true_iff]; omega
          have hj : (at_ + k) / 8 < (flipTo high l at_ mask k).length := by omega
          have hf := flipTo_hit high l at_ mask k hit hj
          refine C.seq <| C.region <| E.mv rfl rfl <| ?_
          refine E.rem rfl rfl (by omega) (IntWalk.rem_in _ _ (by omega)) rfl ?_
          refine E.shl rfl rfl (by omega) (shlL _) rfl ?_
          refine E.asg rfl rfl <| E.nil <| X.next <| ?_

          refine C.cut (G := Unit) (fun _ => [(1, i64 at_), (2, .int .u32 ((mask / 2 ^ k : Nat) : Int)), (3, i64 wide), (4, .bool high), (12, q), (14, i64 k), (15, i64 ((at_ + k : Nat) : Int)), (16, u8 (if high then bitH (at_ + k) else bitL (at_ + k)))]) (fun _ w' => wk = w') ?_ ?_
          ·
            refine C.seq <| C.region <| E.mv rfl rfl <| E.nil <| X.next <| ?_
            refine C.cond rfl (fun hc => ?_) (fun hc => ?_)
            ·
              refine C.region <| E.mv rfl rfl <| ?_
              refine E.rem rfl rfl (by omega) (IntWalk.rem_in _ _ (by omega)) rfl ?_
              refine E.shr rfl rfl (by omega) (shrH _) rfl ?_
              refine E.asg rfl rfl <| E.nil <| X.join () (Sub.cons rfl <| Sub.cons rfl <| Sub.cons rfl <| Sub.cons rfl <| Sub.cons rfl <| Sub.cons rfl <| Sub.cons rfl <| Sub.cons (by rw [if_pos hc]; rfl) <| Sub.nil _) rfl
            ·
              refine C.skip <| X.join () (Sub.cons rfl <| Sub.cons rfl <| Sub.cons rfl <| Sub.cons rfl <| Sub.cons rfl <| Sub.cons rfl <| Sub.cons rfl <| Sub.cons (by rw [if_neg (by simp [hc])]; rfl) <| Sub.nil _) rfl
          ·
            rintro _ _ rfl
            refine C.seq <| C.region <| E.mv rfl rfl <| E.mv rfl rfl <| ?_
            refine E.quo rfl rfl (by omega) (IntWalk.i64_quo _ _ (by omega)) rfl ?_
            refine E.mv rfl rfl <| E.mv rfl rfl <| ?_
            refine E.quo rfl rfl (by omega) (IntWalk.i64_quo _ _ (by omega)) rfl ?_
            refine E.get (k := (at_ + k) / 8) rfl rfl ho.rd (by omega) hj Try.underlying22 (by kernel_rfl) Try.underlying5 rfl rfl rfl ?_
            refine E.mv rfl rfl <| E.binw rfl rfl rfl (congrArg _ (xor8 _ _)) rfl <| ?_
            refine E.idx (sz := 1) rfl rfl ho.rd Try.underlying22 (by kernel_rfl) (by omega) (by omega) (by decide) rfl ?_
            rw [show (((at_ + k : Nat) : Int) / 8).toNat * 1 = (at_ + k) / 8 from by omega]
            obtain ⟨c1, c2, c3⟩ := ho.cellAt hj
            refine E.store rfl rfl (by kernel_rfl) rfl c1 c2 ?_
            have ho2 := ho.set hj ((flipTo high l at_ mask k)[(at_ + k) / 8] ^^^ (if high then bitH (at_ + k) else bitL (at_ + k)))
            rw [← hf] at ho2
            have hx2 := hx.setCell (by have := (World.ownsRow.lt ho _ c3).1; exact this) (u8 ((flipTo high l at_ mask k)[(at_ + k) / 8] ^^^ (if high then bitH (at_ + k) else bitL (at_ + k))))
            refine E.nil <| X.next <| C.region <| E.asg rfl rfl <| E.nil <| X.join () (Sub.cons rfl <| Sub.cons rfl <| Sub.cons rfl <| Sub.cons rfl <| Sub.cons rfl <| Sub.cons (by rw [any_succ _ _ _ _ _ hit, Bool.or_true]; rfl) <| Sub.cons rfl <| Sub.nil _) ⟨ho2, hx2⟩
        ·
          have hit : hits l.length at_ mask k = false := by rw [hits, decide_eq_false_iff_not]; omega
          refine C.skip <| X.join () (Sub.cons rfl <| Sub.cons rfl <| Sub.cons rfl <| Sub.cons rfl <| Sub.cons rfl <| Sub.cons (by rw [any_succ _ _ _ _ _ hit, Bool.or_false]; rfl) <| Sub.cons rfl <| Sub.nil _) ⟨by rw [flipTo_miss _ _ _ _ _ hit]; exact ho, hx⟩
      ·
        rintro _ w2 ⟨ho2, hx2⟩
        refine C.region <| E.mv rfl rfl <| ?_
        refine E.quo rfl rfl (by omega) (quoM mask k hm) rfl ?_
        refine E.asg rfl rfl <| E.nil <| X.outN <| X.next <| C.region <| E.mv rfl rfl <| ?_
        refine E.add rfl rfl (by omega) rfl ?_
        refine E.asg rfl rfl <| E.nil <| X.again (k + 1) (Sub.cons rfl <| Sub.cons rfl <| Sub.cons rfl <| Sub.cons rfl <| Sub.cons rfl <| Sub.cons rfl <| Sub.cons rfl <| Sub.nil _) ⟨by omega, ho2, hx2⟩ (by omega)
    ·
      refine C.exit <| X.exitT <| X.exitT <| X.outE <| X.next <| C.seq <| C.region <| E.mv rfl rfl <| E.mv rfl rfl <| E.asg rfl rfl <| E.asg rfl rfl <| E.nil <| X.next <| C.ret <| ret2 rfl rfl rfl ?_
      obtain rfl : k = wide := by omega
      exact ⟨q, rfl, ho.rd, hx⟩
theorem burst_eq (l : List UInt8) (i m : Nat) (h : i ≤ 8 * l.length) : (decide (((Crc.crc (flipTo false l i m 32)).toNat : Int) ≠ ((Crc.crc l).toNat : Int)) == anyTo l.length i m 32) = true := by
  have := burst l i m h
  rw [beq_iff_eq, Bool.eq_iff_iff, ← this, decide_eq_true_iff]
  exact not_congr ⟨fun h => BitVec.eq_of_toNat_eq (by omega), fun h => by rw [h]⟩
theorem burst16_eq (l : List UInt8) (i m : Nat) (h : i ≤ 8 * l.length) : (decide (((Crc16.crc (flipTo true l i m 16)).toNat : Int) ≠ ((Crc16.crc l).toNat : Int)) == anyTo l.length i m 16) = true := by
  have := burst16 l i m h
  rw [beq_iff_eq, Bool.eq_iff_iff, ← this, decide_eq_true_iff]
  exact not_congr ⟨fun h => BitVec.eq_of_toNat_eq (by omega), fun h => by rw [h]⟩
theorem ChecksumBursts_ret (p : Value) (l : List UInt8) (at_ mask : Int) (w : World) (hp : RdL u8 w p l) (wa : (Lit.int .u16 at_).wf = true) (wm : (Lit.int .u32 mask).wf = true) :
    Ret Try.prog 10 #[p, .int .u16 at_, .int .u32 mask] w fun v w' => v = .bool true ∧ Ext w w' := by
  have hle := Rd.le hp
  have ha := wf_u16 wa
  obtain ⟨mk, rfl⟩ : ∃ m : Nat, mask = m := ⟨mask.toNat, by have := wf_u32 wm; omega⟩
  have hm := wf_u32 wm
  clear wa wm
  refine enter Try.func10 rfl (by kernel_rfl) Try.ntmps10 rfl ?_
  refine C.seq <| C.region <| E.asg rfl rfl <| E.nil <| X.next <| C.seq <| C.seq <| C.region <| E.mv rfl rfl <| ?_
  refine E.len rfl hp Try.underlying22 rfl ?_
  refine E.bin rfl rfl rfl rfl <| E.mv rfl rfl <| ?_
  by_cases hl : (600 : Int) < (l.length : Int)
  case pos =>
    rw [decide_eq_true hl]
    refine E.off rfl rfl rfl rfl <| E.off rfl rfl rfl rfl <| E.off rfl rfl rfl rfl <| E.pick rfl rfl rfl <| E.nil <| X.next <| C.condT rfl <| C.seq <| C.region ?_
    refine E.call rfl rfl (exampleHolds_ret _) ?_
    rintro _ w1 ⟨rfl, hx1⟩
    refine E.asg rfl rfl <| E.nil <| X.next <| C.ret <| X.retT <| ret1 rfl rfl ?_
    exact ⟨rfl, hx1⟩
  rw [decide_eq_false hl]
  refine E.on rfl rfl (E.mv rfl rfl ?_)
  refine E.on rfl rfl (E.len rfl hp Try.underlying22 rfl ?_)
  refine E.on rfl rfl (E.bin rfl rfl rfl rfl ?_)
  refine E.pick rfl rfl rfl <| E.nil <| X.next <| ?_
  refine C.cond' rfl (fun hc => ?_) (fun hc => ?_)
  ·
    refine C.seq <| C.region <| ?_
    refine E.call rfl rfl (exampleHolds_ret _) ?_
    rintro _ w1 ⟨rfl, hx1⟩
    refine E.asg rfl rfl <| E.nil <| X.next <| C.ret <| X.retT <| ret1 rfl rfl ?_
    exact ⟨rfl, hx1⟩
  ·
    refine C.skip <| X.next <| C.seq <| C.region <| E.mv rfl rfl <| ?_
    refine E.conv rfl Try.underlying27 Try.underlying3 (IntWalk.i64_in _ (by omega)) rfl ?_
    refine E.mv rfl rfl <| ?_
    refine E.len rfl hp Try.underlying22 rfl ?_
    refine E.mul rfl rfl (by omega) rfl ?_
    refine E.rem rfl rfl (by omega) (IntWalk.rem_in _ _ (by omega)) rfl ?_
    obtain ⟨i, hi⟩ : ∃ i : Nat, at_ % (8 * (l.length : Int)) = i := ⟨(at_ % (8 * (l.length : Int))).toNat, (Int.toNat_of_nonneg (Int.emod_nonneg _ (by omega))).symm⟩
    have hil : i ≤ 8 * l.length := by have := Int.emod_lt_of_pos at_ (show (0 : Int) < 8 * l.length by omega); omega
    rw [hi]
    clear hi
    refine E.asg rfl rfl <| E.nil <| X.next <| C.seq <| C.region <| E.mv rfl rfl <| E.mv rfl rfl <| E.mv rfl rfl <| ?_
    refine E.call rfl rfl (flipped_ret p l i mk 32 false _ hp (by omega) (by omega) (by omega) (by omega)) ?_
    rintro _ w1 ⟨q, rfl, hq, hx1⟩
    refine E.mv rfl rfl <| E.ext rfl rfl rfl <| E.ext rfl rfl rfl <| E.asg rfl rfl <| E.asg rfl rfl <| E.nil <| X.next <| C.seq <| C.region <| E.mv rfl rfl <| E.mv rfl rfl <| E.mv rfl rfl <| ?_
    refine E.call rfl rfl (flipped_ret p l i mk 16 true _ (hp.ext hx1) (by omega) (by omega) (by omega) (by omega)) ?_
    rintro _ w2 ⟨s, rfl, hs, hx2⟩
    refine E.mv rfl rfl <| E.ext rfl rfl rfl <| E.ext rfl rfl rfl <| E.asg rfl rfl <| E.asg rfl rfl <| E.nil <| X.next <| C.seq <| C.region <| E.mv rfl rfl <| ?_
    refine E.call rfl rfl (CRC32_ret q _ _ (hq.ext hx2)) ?_
    rintro _ w3 ⟨rfl, hx3⟩
    refine E.mv rfl rfl <| ?_
    refine E.call rfl rfl (CRC32_ret p l _ (((hp.ext hx1).ext hx2).ext hx3)) ?_
    rintro _ w4 ⟨rfl, hx4⟩
    refine E.bin rfl rfl rfl rfl <| E.mv rfl rfl <| E.eqb rfl rfl Try.underlying4 rfl <| ?_
    rw [burst_eq l i mk hil]
    refine E.mv rfl rfl <| ?_
    refine E.on rfl rfl (E.mv rfl rfl ?_)
    refine E.on rfl rfl (E.call rfl rfl (CRC16_ret s _ _ ((hs.ext hx3).ext hx4)) ?_)
    rintro _ w5 ⟨rfl, hx5⟩
    refine E.on rfl rfl (E.mv rfl rfl ?_)
    refine E.on rfl rfl (E.call rfl rfl (CRC16_ret p l _ (((((hp.ext hx1).ext hx2).ext hx3).ext hx4).ext hx5)) ?_)
    rintro _ w6 ⟨rfl, hx6⟩
    refine E.on rfl rfl (E.bin rfl rfl rfl rfl ?_)
    refine E.on rfl rfl (E.mv rfl rfl ?_)
    refine E.on rfl rfl (E.eqb rfl rfl Try.underlying4 rfl ?_)
    rw [burst16_eq l i mk hil]
    refine E.pick rfl rfl rfl <| E.mv rfl rfl <| ?_
    refine E.on rfl rfl (E.call rfl rfl (exampleHolds_ret _) ?_)
    rintro _ w7 ⟨rfl, hx7⟩
    refine E.pick rfl rfl rfl <| E.asg rfl rfl <| E.nil <| X.next <| C.ret <| ret1 rfl rfl ?_
    exact ⟨rfl, (((((hx1.trans hx2).trans hx3).trans hx4).trans hx5).trans hx6).trans hx7⟩
end Go.Proofs.Ytmekdfkcjhgkdaa
