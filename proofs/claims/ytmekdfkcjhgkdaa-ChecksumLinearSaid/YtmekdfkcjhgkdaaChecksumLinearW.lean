/- The law ChecksumLinear: its walk. -/
import Derived.Test.YtmekdfkcjhgkdaaEx06
import Derived.Test.YtmekdfkcjhgkdaaSymQ
import Derived.Test.YtmekdfkcjhgkdaaCrcMore
import Derived.Test.YtmekdfkcjhgkdaaFrame
namespace Go.Proofs.Ytmekdfkcjhgkdaa
open Go.RowKit Sym

theorem elem_Tuint8 : Elem Try.prog 5 1 1 := elem_of (z := .int .u8 0) (by kernel_rfl) rfl (by decide)
/-- the first k bytes of m, zeros where it ends -/
def padTo (_l m : List UInt8) : Nat → List UInt8
  | 0 => []
  | k + 1 => padTo _l m k ++ [m.getD k 0]
theorem padTo_succ (l m : List UInt8) (k : Nat) : padTo l m (k + 1) = padTo l m k ++ [m.getD k 0] := rfl
theorem padTo_len (l m : List UInt8) (k : Nat) : (padTo l m k).length = k := by
  induction k with
  | zero => rfl
  | succ k ih => simp [padTo, ih]
theorem zip_succ (l m : List UInt8) (k : Nat) (h : k < l.length) : List.zipWith (· ^^^ ·) (l.take (k + 1)) (padTo l m (k + 1)) = List.zipWith (· ^^^ ·) (l.take k) (padTo l m k) ++ [l[k] ^^^ m.getD k 0] := by
  rw [List.take_succ_eq_append_getElem h, padTo_succ, List.zipWith_append (by simp [padTo_len]; omega)]; rfl
theorem xor8 (c d : UInt8) : bits .xor .u8 (c.toNat : Int) (d.toNat : Int) = ((c ^^^ d).toNat : Int) := by
  rw [u8_xor_nat _ _ (u8_lt c) (u8_lt d), UInt8.toNat_xor]
theorem ChecksumLinear_ret (p : Value) (l : List UInt8) (q : Value) (m : List UInt8) (w : World) (hp : RdL u8 w p l) (hq : RdL u8 w q m) :
    Ret Try.prog 9 #[p, q] w fun v w' => v = .bool true ∧ Ext w w' := by
  have hle := Rd.le hp
  have hle2 := Rd.le hq
  refine enter Try.func9 rfl (by kernel_rfl) Try.ntmps9 rfl ?_
  refine C.seq <| C.region <| E.asg rfl rfl <| E.nil <| X.next <| C.seq <| C.seq <| C.region <| E.mv rfl rfl <| ?_
  refine E.len rfl hp Try.underlying22 rfl ?_
  refine E.bin rfl rfl rfl rfl <| E.nil <| X.next <| ?_
  refine C.cond' rfl (fun hc => ?_) (fun hc => ?_)
  ·
    refine C.seq <| C.region <| ?_
    refine E.call rfl rfl (exampleHolds_ret _) ?_
    rintro _ w1 ⟨rfl, hx1⟩
    refine E.asg rfl rfl <| E.nil <| X.next <| C.ret <| X.retT <| ret1 rfl rfl ?_
    exact ⟨rfl, hx1⟩
  ·
    refine C.skip <| X.next <| C.seq <| C.region <| E.asg rfl rfl <| E.asg rfl rfl <| E.asg rfl rfl <| E.nil <| X.next <| C.seq <| C.seq <| C.region <| E.asg rfl rfl <| E.nil <| X.next <| C.block <| ?_

    refine C.loop (G := Nat × Value × Value × Value) (fun g => [(0, p), (1, q), (5, g.2.1), (6, g.2.2.1), (7, g.2.2.2), (8, i64 (g.1 : Nat))]) (fun g w' => g.1 ≤ l.length ∧ (OwnL u8 w' w.heap.size 5 g.2.1 (padTo l m g.1) ∧ OwnL u8 w' w.heap.size 5 g.2.2.1 (List.zipWith (· ^^^ ·) (l.take g.1) (padTo l m g.1)) ∧ OwnL u8 w' w.heap.size 5 g.2.2.2 (List.replicate g.1 0) ∧ Apart g.2.1 g.2.2.1 ∧ Apart g.2.1 g.2.2.2 ∧ Apart g.2.2.1 g.2.2.2) ∧ Ext w w') (fun g => l.length - g.1) (0, .slice none 0 0, .slice none 0 0, .slice none 0 0) ?_ ?_ ?_
    · exact Sub.cons rfl <| Sub.cons rfl <| Sub.cons rfl <| Sub.cons rfl <| Sub.cons rfl <| Sub.cons rfl <| Sub.nil _
    · exact ⟨Nat.zero_le _, ⟨OwnL.nil _ _ _ _, OwnL.nil _ _ _ _, OwnL.nil _ _ _ _, Apart.nil _, Apart.nil _, Apart.nil _⟩, Ext.refl w⟩
    · rintro ⟨k, va, vb, vz⟩ wk ⟨hk, ht, hx⟩
      simp only at hk ht
      refine C.seq <| C.seq <| C.region <| E.mv rfl rfl <| E.mv rfl rfl <| ?_
      refine E.lenv rfl hp.shape Try.underlying22 rfl ?_
      refine E.bin rfl rfl rfl rfl <| E.nil <| X.next <| ?_
      refine C.cond' rfl (fun hc => ?_) (fun hc => ?_)
      ·
        refine C.skip <| X.next <| C.seq <| C.block <| C.seq <| C.region <| E.asg rfl rfl <| E.nil <| X.next <| ?_

        refine C.cut (G := Unit) (fun _ => [(0, p), (1, q), (5, va), (6, vb), (7, vz), (8, i64 (k : Nat)), (9, u8 (m.getD k 0))]) (fun _ w' => wk = w') ?_ ?_
        ·
          refine C.seq <| C.region <| E.mv rfl rfl <| E.mv rfl rfl <| ?_
          refine E.lenv rfl hq.shape Try.underlying22 rfl ?_
          refine E.bin rfl rfl rfl rfl <| E.nil <| X.next <| ?_
          refine C.cond' rfl (fun hc => ?_) (fun hc => ?_)
          ·
            refine C.region <| E.mv rfl rfl <| E.mv rfl rfl <| ?_
            refine E.get (k := k) rfl rfl (hq.ext hx) rfl (by omega) Try.underlying22 (by kernel_rfl) Try.underlying5 rfl rfl rfl ?_
            refine E.asg rfl rfl <| E.nil <| X.join () (Sub.cons rfl <| Sub.cons rfl <| Sub.cons rfl <| Sub.cons rfl <| Sub.cons rfl <| Sub.cons rfl <| Sub.cons (by rw [List.getD_eq_getElem?_getD, List.getElem?_eq_getElem (by omega)]; rfl) <| Sub.nil _) rfl
          ·
            refine C.skip <| X.join () (Sub.cons rfl <| Sub.cons rfl <| Sub.cons rfl <| Sub.cons rfl <| Sub.cons rfl <| Sub.cons rfl <| Sub.cons (by rw [List.getD_eq_getElem?_getD, List.getElem?_eq_none (by omega)]; rfl) <| Sub.nil _) rfl
        ·
          rintro _ _ rfl
          have hk' : k < l.length := by omega
          obtain ⟨ha, hb, hz, n1, n2, n3⟩ := ht
          have hla : (padTo l m k).length = k := padTo_len l m k
          have hlb : (List.zipWith (· ^^^ ·) (l.take k) (padTo l m k)).length = k := by simp [hla]; omega
          refine C.seq <| C.region <| E.mv rfl rfl <| E.mv rfl rfl <| ?_
          refine E.pushL (m.getD k 0) rfl rfl Try.underlying22 elem_Tuint8 ha rfl (by omega) (by omega) hx.size (by simp) rfl rfl ?_
          intro va' w1 ha1 hg1 hl1
          have hx1 := hx.own ha hg1 (Nat.le_refl _)
          have hb1 : OwnL u8 w1 _ _ vb _ := Own.apart hb hg1 n1
          have hz1 : OwnL u8 w1 _ _ vz _ := Own.apart hz hg1 n2
          have m1 := n1.grow hl1 hb
          have m2 := n2.grow hl1 hz
          refine E.asg rfl rfl <| E.nil <| X.next <| C.seq <| C.region <| E.mv rfl rfl <| E.mv rfl rfl <| E.mv rfl rfl <| ?_
          refine E.get (k := k) rfl rfl (hp.ext hx1) rfl hk' Try.underlying22 (by kernel_rfl) Try.underlying5 rfl rfl rfl ?_
          refine E.mv rfl rfl <| E.binw rfl rfl rfl (congrArg _ (xor8 _ _)) rfl <| ?_
          refine E.pushL (l[k] ^^^ m.getD k 0) rfl rfl Try.underlying22 elem_Tuint8 hb1 rfl (by omega) (by omega) hx1.size (by simp) rfl rfl ?_
          intro vb' w2 hb2 hg2 hl2
          have hx2 := hx1.own hb1 hg2 (Nat.le_refl _)
          have ha2 : OwnL u8 w2 _ _ va' _ := Own.apart ha1 hg2 m1.symm
          have hz2 : OwnL u8 w2 _ _ vz _ := Own.apart hz1 hg2 n3
          have m3 := n3.grow hl2 hz1
          have m4 := (m1.symm.grow hl2 ha1).symm
          refine E.asg rfl rfl <| E.nil <| X.next <| C.region <| E.mv rfl rfl <| ?_
          refine E.pushL (0 : UInt8) rfl rfl Try.underlying22 elem_Tuint8 hz2 rfl (by simp; omega) (by simp; omega) hx2.size (by simp) rfl rfl ?_
          intro vz' w3 hz3 hg3 hl3
          have hx3 := hx2.own hz2 hg3 (Nat.le_refl _)
          have ha3 : OwnL u8 w3 _ _ va' _ := Own.apart ha2 hg3 m2.symm
          have hb3 : OwnL u8 w3 _ _ vb' _ := Own.apart hb2 hg3 m3.symm
          have m5 := (m2.symm.grow hl3 ha2).symm
          have m6 := (m3.symm.grow hl3 hb2).symm
          refine E.asg rfl rfl <| E.nil <| X.outN <| X.next <| C.region <| E.mv rfl rfl <| ?_
          refine E.add rfl rfl (by omega) rfl ?_
          refine E.asg rfl rfl <| E.nil <| X.again (k + 1, va', vb', vz') (Sub.cons rfl <| Sub.cons rfl <| Sub.cons rfl <| Sub.cons rfl <| Sub.cons rfl <| Sub.cons rfl <| Sub.nil _) ⟨by simp only; omega, ⟨by simp only [padTo_succ]; exact ha3, by simp only [zip_succ l m k hk']; exact hb3, by simp only [List.replicate_succ']; exact hz3, m4, m5, m6⟩, hx3⟩ (by simp only; omega)
      ·
        obtain rfl : k = l.length := by omega
        obtain ⟨ha, hb, hz, n1, n2, n3⟩ := ht
        rw [List.take_length] at hb
        refine C.exit <| X.exitT <| X.exitT <| X.outE <| X.next <| C.seq <| C.region <| E.mv rfl rfl <| ?_
        refine E.call rfl rfl (CRC32_ret p l _ (hp.ext hx)) ?_
        rintro _ w1 ⟨rfl, hx1⟩
        refine E.mv rfl rfl <| ?_
        refine E.call rfl rfl (CRC32_ret va _ _ (ha.rd.ext hx1)) ?_
        rintro _ w2 ⟨rfl, hx2⟩
        refine E.binw rfl rfl rfl (congrArg _ (bits_xor32 _ _)) rfl <| E.mv rfl rfl <| ?_
        refine E.call rfl rfl (CRC32_ret vz _ _ ((hz.rd.ext hx1).ext hx2)) ?_
        rintro _ w3 ⟨rfl, hx3⟩
        have hy3 := (hx1.trans hx2).trans hx3
        refine E.binw rfl rfl rfl (congrArg _ (bits_xor32 _ _)) rfl <| E.asg rfl rfl <| E.nil <| X.next <| C.seq <| C.region <| E.mv rfl rfl <| ?_
        refine E.call rfl rfl (CRC16_ret p l _ ((hp.ext hx).ext hy3)) ?_
        rintro _ w4 ⟨rfl, hx4⟩
        have hy4 := hy3.trans hx4
        refine E.mv rfl rfl <| ?_
        refine E.call rfl rfl (CRC16_ret va _ _ (ha.rd.ext hy4)) ?_
        rintro _ w5 ⟨rfl, hx5⟩
        have hy5 := hy4.trans hx5
        refine E.binw rfl rfl rfl (congrArg _ (bits_xor16 _ _)) rfl <| E.mv rfl rfl <| ?_
        refine E.call rfl rfl (CRC16_ret vz _ _ (hz.rd.ext hy5)) ?_
        rintro _ w6 ⟨rfl, hx6⟩
        have hy6 := hy5.trans hx6
        refine E.binw rfl rfl rfl (congrArg _ (bits_xor16 _ _)) rfl <| E.asg rfl rfl <| E.nil <| X.next <| C.seq <| C.region <| E.mv rfl rfl <| ?_
        refine E.call rfl rfl (CRC32_ret vb _ _ (hb.rd.ext hy6)) ?_
        rintro _ w7 ⟨rfl, hx7⟩
        have hy7 := hy6.trans hx7
        have hla : l.length = (padTo l m l.length).length := (padTo_len l m _).symm
        refine E.mv rfl rfl <| E.binw rfl rfl rfl (beqT (by rw [crc_linear l _ hla])) rfl <| E.mv rfl rfl <| ?_
        refine E.on rfl rfl (E.mv rfl rfl ?_)
        refine E.on rfl rfl (E.call rfl rfl (CRC16_ret vb _ _ (hb.rd.ext hy7)) ?_)
        rintro _ w8 ⟨rfl, hx8⟩
        refine E.on rfl rfl (E.mv rfl rfl ?_)
        refine E.on rfl rfl (E.binw rfl rfl rfl (beqT (by rw [crc16_linear l _ hla])) rfl ?_)
        refine E.pick rfl rfl rfl <| E.mv rfl rfl <| ?_
        refine E.on rfl rfl (E.call rfl rfl (exampleHolds_ret _) ?_)
        rintro _ w9 ⟨rfl, hx9⟩
        refine E.pick rfl rfl rfl <| E.asg rfl rfl <| E.nil <| X.next <| C.ret <| ret1 rfl rfl ?_
        exact ⟨rfl, ((hx.trans hy7).trans hx8).trans hx9⟩
end Go.Proofs.Ytmekdfkcjhgkdaa
