/- The law ChecksumDigests: its walk. -/
import Derived.Test.YtmekdfkcjhgkdaaEx06
import Derived.Test.YtmekdfkcjhgkdaaSymQ
import Derived.Test.YtmekdfkcjhgkdaaSymS
import Derived.Test.YtmekdfkcjhgkdaaDigState
import Derived.Test.YtmekdfkcjhgkdaaFrame
namespace Go.Proofs.Ytmekdfkcjhgkdaa
open Go.RowKit Sym

theorem elem_Tuint8 : Elem Try.prog 5 1 1 := elem_of (z := .int .u8 0) (by kernel_rfl) rfl (by decide)
theorem elem_Tp_checksum_Digest : Elem Try.prog 42 1 8 := elem_of (z := .pointer none) (by kernel_rfl) rfl (by decide)
theorem elem_Tsl_uint8 : Elem Try.prog 22 1 24 := elem_of (z := .slice none 0 0) (by kernel_rfl) rfl (by decide)
/-- a call on digests, as it lies in memory; its bytes -/
structure OpV where
  kind : UInt8
  on : UInt8
  p : Value
  l : List UInt8
def OpV.cells (o : OpV) : List Value := [u8 o.kind, u8 o.on, o.p]
theorem DS.fresh {w : World} {B : Nat} {va vb : Value} {bl : List Nat} {vs : List Value} {ms ls : List (List UInt8)} (h : DS w B va vb bl vs ms ls) {g : Nat} (hg : w.heap.size ≤ g) : Safe va vb bl g :=
  ⟨fun hm => by have := h.ltb hm; omega, fun e => by have := (World.ownsRow.lt h.oa g e).2; omega, fun e => by have := (World.ownsRow.lt h.ob g e).2; omega⟩
structure DG where
  k : Nat
  va : Value
  vb : Value
  bl : List Nat
  vs : List Value
  ls : List (List UInt8)
/-- after n calls -/
structure DInv (w w' : World) (n : Nat) (g : DG) : Prop where
  ds : DS w' w.heap.size g.va g.vb g.bl g.vs g.ls g.ls
  len : g.vs.length = g.bl.length
  pos : 0 < g.bl.length
  few : g.bl.length ≤ n + 1
  short : ∀ l ∈ g.ls, l.length ≤ 100 * n
  ext : Ext w w'
theorem one_of_rd {w : World} {v : Value} {l : List UInt8} (h : RdL u8 w v l) : v.oneCell' = true := by
  obtain ⟨a, cap, rfl⟩ := h.shape; rfl

theorem light_ret (p : Value) (os : List OpV) (w : World) (hp : RdF OpV.cells 3 w p os) (ho : ∀ o ∈ os, RdL u8 w o.p o.l) :
    Ret Try.prog 24 #[p] w fun v w' => (∃ b, v = .bool b ∧ (b = true → os.length ≤ 30 ∧ ∀ o ∈ os, o.l.length ≤ 100)) ∧ w = w' := by
  have hle := hp.le
  refine enter Try.func24 rfl (by kernel_rfl) Try.ntmps24 rfl ?_
  refine C.seq <| C.region <| E.asg rfl rfl <| E.nil <| X.next <| C.seq <| C.seq <| C.region <| E.mv rfl rfl <| ?_
  refine E.lenv rfl hp.shape Try.underlying40 rfl ?_
  refine E.bin rfl rfl rfl rfl <| E.nil <| X.next <| ?_
  refine C.cond' rfl (fun hc => ?_) (fun hc => ?_)
  ·
    refine C.seq <| C.region <| E.asg rfl rfl <| E.nil <| X.next <| C.ret <| X.retT <| ret1 rfl rfl ?_
    exact ⟨⟨false, rfl, fun h => by cases h⟩, rfl⟩
  ·
    refine C.skip <| X.next <| C.seq <| C.seq <| C.region <| E.asg rfl rfl <| E.nil <| X.next <| C.block <| ?_

    refine C.loop (G := Nat) (fun k => [(0, p), (3, i64 k)]) (fun k w' => k ≤ os.length ∧ (∀ i (h : i < os.length), i < k → os[i].l.length ≤ 100) ∧ w = w') (fun k => os.length - k) 0 ?_ ?_ ?_
    · exact Sub.cons rfl <| Sub.cons rfl <| Sub.nil _
    · exact ⟨by omega, fun i h hi => by omega, rfl⟩
    · rintro k _ ⟨hk, hall, rfl⟩
      refine C.seq <| C.seq <| C.region <| E.mv rfl rfl <| E.mv rfl rfl <| ?_
      refine E.lenv rfl hp.shape Try.underlying40 rfl ?_
      refine E.bin rfl rfl rfl rfl <| E.nil <| X.next <| ?_
      refine C.cond' rfl (fun hc => ?_) (fun hc => ?_)
      ·
        have hk' : k < os.length := by omega
        have hok := ho _ (List.getElem_mem hk')
        refine C.skip <| X.next <| C.seq <| C.block <| C.seq <| C.region <| E.mv rfl rfl <| E.mv rfl rfl <| ?_
        refine E.idx (sz := 3) rfl rfl hp.rd Try.underlying40 (by kernel_rfl) (by omega) (by omega) (by decide) rfl ?_
        refine E.fld (o := 2) (sz := 0) rfl Try.underlying47 rfl rfl (by kernel_rfl) rfl ?_
        refine E.load rfl Try.underlying22 rfl (hp.cellI hk' 2 rfl rfl) rfl ?_
        refine E.lenv rfl hok.shape Try.underlying22 rfl ?_
        refine E.bin rfl rfl rfl rfl <| E.nil <| X.next <| ?_
        refine C.cond' rfl (fun hc => ?_) (fun hc => ?_)
        ·
          refine C.seq <| C.region <| E.asg rfl rfl <| E.nil <| X.next <| C.ret <| X.retB <| X.retT <| X.retT <| X.retB <| X.retT <| ret1 rfl rfl ?_
          exact ⟨⟨false, rfl, fun h => by cases h⟩, rfl⟩
        ·
          refine C.skip <| X.outN <| X.next <| C.region <| E.mv rfl rfl <| ?_
          refine E.add rfl rfl (by omega) rfl ?_
          refine E.asg rfl rfl <| E.nil <| X.again (k + 1) (Sub.cons rfl <| Sub.cons rfl <| Sub.nil _) ⟨by omega, fun i h hi => by
            by_cases hik : i = k
            · subst hik; omega
            · exact hall i h (by omega), rfl⟩ (by omega)
      ·
        refine C.exit <| X.exitT <| X.exitT <| X.outE <| X.next <| C.seq <| C.region <| E.asg rfl rfl <| E.nil <| X.next <| C.ret <| ret1 rfl rfl ?_
        exact ⟨⟨true, rfl, fun _ => ⟨by omega, fun o hmem => by
          obtain ⟨i, hi, rfl⟩ := List.mem_iff_getElem.1 hmem
          exact hall i hi (by omega)⟩⟩, rfl⟩
set_option maxHeartbeats 1000000 in
theorem ChecksumDigests_ret (p : Value) (os : List OpV) (w : World) (hp : RdF OpV.cells 3 w p os) (ho : ∀ o ∈ os, RdL u8 w o.p o.l) :
    Ret Try.prog 12 #[p] w fun v w' => v = .bool true ∧ Ext w w' := by
  refine enter Try.func12 rfl (by kernel_rfl) Try.ntmps12 rfl ?_
  refine C.seq <| C.region <| E.asg rfl rfl <| E.nil <| X.next <| C.seq <| C.seq <| C.region <| E.mv rfl rfl <| ?_
  refine E.call rfl rfl (light_ret p os _ hp ho) ?_
  rintro _ _ ⟨⟨b, rfl, hlight⟩, rfl⟩
  refine E.not rfl rfl <| E.nil <| X.next <| ?_
  refine C.cond rfl (fun hc => ?_) (fun hc => ?_)
  ·
    refine C.seq <| C.region <| ?_
    refine E.call rfl rfl (exampleHolds_ret _) ?_
    rintro _ w1 ⟨rfl, hx1⟩
    refine E.asg rfl rfl <| E.nil <| X.next <| C.ret <| X.retT <| ret1 rfl rfl ?_
    exact ⟨rfl, hx1⟩
  ·
    obtain ⟨h30, h100⟩ := hlight (by simpa using hc)
    refine C.skip <| X.next <| C.seq <| C.region <| ?_
    refine E.call rfl rfl (NewDigest_ret _) ?_
    rintro _ _ ⟨rfl, rfl⟩
    have hx1 : Ext w (w.alloc (.cells (dgst 0xffffffff#32 0 true) 54)) := Ext.new w _
    have hb1 : Blk (w.alloc (.cells (dgst 0xffffffff#32 0 true) 54)) w.heap.size 54 (dgst 0xffffffff#32 0 true) := Blk.new w _ _
    have hs1 : (w.alloc (.cells (dgst 0xffffffff#32 0 true) 54)).heap.size = w.heap.size + 1 := World.size_alloc ..
    generalize w.alloc (.cells (dgst 0xffffffff#32 0 true) 54) = w1 at hx1 hb1 hs1 ⊢
    refine E.asg rfl rfl <| E.nil <| X.next <| C.seq <| C.seq <| C.region <| E.mv rfl rfl <| E.eqnil rfl rfl Try.underlying42 rfl <| E.nil <| X.next <| ?_
    refine C.condF rfl ?_
    ·
      refine C.skip <| X.next <| C.seq <| C.region <| E.mv rfl rfl <| ?_
      refine E.mk1 (enc := pd) w.heap.size rfl Try.underlying44 elem_Tp_checksum_Digest rfl w.heap.size (by omega) rfl ?_
      intro va w2 oa2 hx2 na2
      refine E.asg rfl rfl <| E.nil <| X.next <| C.seq <| C.region <| ?_
      refine E.mk1 (enc := fun v : Value => v) (.slice none 0 0) rfl Try.underlying45 elem_Tsl_uint8 rfl w.heap.size (by have := hx2.size; omega) rfl ?_
      intro vb w3 ob3 hx3 nb3
      have hy3 : Ext w w3 := (hx1.trans hx2).trans hx3
      have hs2 : w1.heap.size < w2.heap.size := (World.ownsRow.lt oa2 _ na2).2
      have hD0 : DInv w w3 0 ⟨0, va, vb, [w.heap.size], [.slice none 0 0], [[]]⟩ := by
        refine ⟨{ oa := oa2.kept hx3, ob := ob3, ap := fun g ha hb => ?_, dl := rfl, dig := fun i b m hb hm => ?_, lo := fun b hb => ?_, nd := fun i j b hi hj => ?_, rl := rfl, rd := fun i v l hv hl => ?_ }, rfl, by simp, by simp, fun l hl => ?_, hy3⟩
        · rw [na2] at ha; rw [nb3] at hb; have := Option.some.inj ha; have := Option.some.inj hb; omega
        · cases i with
          | zero => simp at hb hm; subst hb; subst hm; exact (hb1.ext hx2).ext hx3
          | succ i => simp at hb
        · simp at hb; subst hb
          exact ⟨Nat.le_refl _, by rw [na2]; intro e; have := Option.some.inj e; omega, by rw [nb3]; intro e; have := Option.some.inj e; omega⟩
        · cases i <;> cases j <;> simp at hi hj ⊢
        · cases i with
          | zero => simp at hv hl; subst hv; subst hl; exact ⟨(OwnL.nil u8 w3 0 5).rd, .inl rfl⟩
          | succ i => simp at hv
        · simp at hl; subst hl; simp
      refine E.asg rfl rfl <| E.nil <| X.next <| C.seq <| C.seq <| C.region <| E.asg rfl rfl <| E.nil <| X.next <| C.block <| ?_

      refine C.loop (G := DG) (fun g => [(0, p), (4, g.va), (5, g.vb), (6, i64 (g.k : Nat))]) (fun g w' => g.k ≤ os.length ∧ DInv w w' g.k g) (fun g => os.length - g.k) ⟨0, va, vb, [w.heap.size], [.slice none 0 0], [[]]⟩ ?_ ?_ ?_
      · exact Sub.cons rfl <| Sub.cons rfl <| Sub.cons rfl <| Sub.cons rfl <| Sub.nil _
      · exact ⟨Nat.zero_le _, hD0⟩
      · clear hD0
        rintro ⟨k, va, vb, bl, vs, ls⟩ wk ⟨hk, hI⟩
        simp only at hk hI
        refine C.seq <| C.seq <| C.region <| E.mv rfl rfl <| E.mv rfl rfl <| ?_
        refine E.lenv rfl hp.shape Try.underlying40 rfl ?_
        refine E.bin rfl rfl rfl rfl <| E.nil <| X.next <| ?_
        refine C.cond' rfl (fun hc => ?_) (fun hc => ?_)
        ·
          have hk' : k < os.length := by have hc' : (k : Int) < (os.length : Int) := hc; omega
          refine C.skip <| X.next <| ?_

          refine C.cut (G := DG) (fun g => [(0, p), (4, g.va), (5, g.vb), (6, i64 (k : Nat))]) (fun g w' => DInv w w' (k + 1) g) ?_ ?_
          ·
            obtain ⟨hD, hlen, hpos, hfew, hshort, hx⟩ := hI
            simp only at hD hlen hpos hfew hshort
            have hpk := hp.ext hx
            have hok := (ho _ (List.getElem_mem hk')).ext hx
            have hol := h100 _ (List.getElem_mem hk')
            have hlsl := hD.rl
            refine C.block <| C.seq <| C.region <| E.mv rfl rfl <| E.mv rfl rfl <| ?_
            refine E.idx (sz := 3) rfl rfl hpk.rd Try.underlying40 (by kernel_rfl) (by omega) (by omega) (by decide) rfl ?_
            refine E.fld (o := 1) (sz := 0) rfl Try.underlying47 rfl rfl (by kernel_rfl) rfl ?_
            refine E.load rfl Try.underlying5 rfl (hpk.cellI hk' 1 rfl rfl) rfl ?_
            have hon := os[k].on.toNat_lt
            refine E.conv rfl Try.underlying5 Try.underlying3 (IntWalk.i64_in _ (by omega)) rfl ?_
            refine E.mv rfl rfl <| ?_
            refine E.lenv rfl hD.oa.rd.shape Try.underlying44 rfl ?_
            refine E.rem rfl rfl (by omega) (IntWalk.rem_in _ _ (by omega)) rfl ?_
            obtain ⟨j, hj⟩ : ∃ j : Nat, (os[k].on.toNat : Int) % (bl.length : Int) = j := ⟨os[k].on.toNat % bl.length, by simp⟩
            have hjl : j < bl.length := by have := Int.emod_lt_of_pos (os[k].on.toNat : Int) (show (0 : Int) < bl.length by omega); omega
            rw [hj]
            clear hj
            have hjv : j < vs.length := by omega
            have hjs : j < ls.length := by omega
            have hsj := hshort _ (List.getElem_mem hjs)
            refine E.asg rfl rfl <| E.nil <| X.next <| C.seq <| C.region <| E.mv rfl rfl <| E.mv rfl rfl <| ?_
            refine E.idx (sz := 3) rfl rfl hpk.rd Try.underlying40 (by kernel_rfl) (by omega) (by omega) (by decide) rfl ?_
            refine E.fld (o := 0) (sz := 0) rfl Try.underlying47 rfl rfl (by kernel_rfl) rfl ?_
            refine E.load rfl Try.underlying5 rfl (hpk.cellI hk' 0 rfl rfl) rfl ?_
            refine E.rem rfl rfl (by omega) (IntWalk.rem_in _ _ (by omega)) rfl ?_
            refine E.bin rfl rfl rfl rfl <| E.nil <| X.next <| ?_
            refine C.cond' rfl (fun hc => ?_) (fun hc => ?_)
            ·

              refine C.seq <| C.seq <| C.drawnT 9 (by kernel_rfl) (by kernel_rfl) fun w1 hw1 => ?_
              have hD1 := hD.keep hw1
              refine S.mv rfl rfl ?_
              refine S.mv rfl rfl ?_
              refine S.get (k := j) rfl rfl hD1.oa.rd rfl hjl Try.underlying44 (by kernel_rfl) Try.underlying42 rfl rfl rfl ?_
              refine S.mv rfl rfl ?_
              refine S.mv rfl rfl ?_
              refine S.idx (sz := 3) rfl rfl (hpk.ext hw1).rd Try.underlying40 (by kernel_rfl) (by omega) (by omega) (by decide) rfl ?_
              refine S.fld (o := 2) (sz := 0) rfl Try.underlying47 rfl rfl (by kernel_rfl) rfl ?_
              refine S.load rfl Try.underlying22 rfl ((hpk.ext hw1).cellI hk' 2 rfl rfl) rfl ?_
              refine S.nil ?_
              refine E.call rfl rfl (Write_ret bl[j] _ _ os[k].p _ (hD1.dig j bl[j] ls[j] (List.getElem?_eq_getElem hjl) (List.getElem?_eq_getElem hjs)) os[k].l (hok.ext hw1) ⟨by omega, by omega⟩) ?_
              rintro _ w2 ⟨rfl, hb2, g2⟩
              have hD2 := hD1.write (m := ls[j]) (l := os[k].l) (List.getElem?_eq_getElem hjl) g2 (by rw [Crc.reg_append, List.length_append, Int.natCast_add]; exact hb2)
              have hx2 : Ext w w2 := (hx.trans hw1).ofGrown g2 (hD1.lo _ (List.getElem_mem hjl)).1
              refine E.binw rfl rfl rfl (bneF rfl) rfl ?_
              refine E.nil <| X.next <| ?_
              refine C.condF rfl ?_
              ·
                obtain ⟨rj1, rj2⟩ := hD2.rd j vs[j] ls[j] (List.getElem?_eq_getElem hjv) (List.getElem?_eq_getElem hjs)
                refine C.skip <| X.next <| C.seq <| C.region <| E.asg rfl rfl <| E.nil <| X.next <| C.seq <| C.region <| E.mv rfl rfl <| E.mv rfl rfl <| E.mv rfl rfl <| ?_
                refine E.get (k := j) rfl rfl hD2.ob.rd rfl hjv Try.underlying45 (by kernel_rfl) Try.underlying22 rfl rfl rfl ?_
                refine E.appendL rfl rfl Try.underlying22 elem_Tuint8 (OwnL.nil _ _ w2.heap.size _) rj1 (fun _ => rfl) (by simp; omega) (by simp; omega) (Nat.le_refl _) rfl ?_
                intro m1 w3 ho3 g3 _
                have hx3 : Ext w2 w3 := (Ext.refl w2).own (OwnL.nil u8 w2 w2.heap.size 5) g3 (Nat.le_refl _)
                have hp3 := hp.ext (hx2.trans hx3)
                rw [List.nil_append] at ho3
                refine E.asg rfl rfl <| E.nil <| X.next <| C.seq <| C.region <| E.mv rfl rfl <| E.mv rfl rfl <| E.mv rfl rfl <| ?_
                refine E.idx (sz := 3) rfl rfl hp3.rd Try.underlying40 (by kernel_rfl) (by omega) (by omega) (by decide) rfl ?_
                refine E.fld (o := 2) (sz := 0) rfl Try.underlying47 rfl rfl (by kernel_rfl) rfl ?_
                refine E.load rfl Try.underlying22 rfl (hp3.cellI hk' 2 rfl rfl) rfl ?_
                refine E.appendL rfl rfl Try.underlying22 elem_Tuint8 ho3 ((ho _ (List.getElem_mem hk')).ext (hx2.trans hx3)) (fun _ => rfl) (by omega) (by omega) hx3.size rfl ?_
                intro m2 w4 ho4 g4 _
                have hx4 : Ext w2 w4 := hx3.own ho3 g4 (Nat.le_refl _)
                have hD4 := hD2.keep hx4
                obtain ⟨c1, c2, c3⟩ := hD4.ob.cellAt hjv
                have hs4 : (ls[j] ++ os[k].l) = [] ∨ Safe va vb bl (bs m2).1 := by
                  by_cases hnil : (ls[j] ++ os[k].l) = []
                  · exact .inl hnil
                  · exact .inr (hD2.fresh (Own.bs_eq ho4 (by rw [List.length_map]; exact List.length_pos_iff.2 hnil)).2)
                have hD5 := hD4.put hjv ho4.rd hs4
                have hx5 : Ext w (w4.setCell (el vb j) m2) := (hx2.trans hx4).setCell (World.ownsRow.lt hD4.ob _ c3).1 _
                refine E.asg rfl rfl <| E.nil <| X.next <| C.region <| E.mv rfl rfl <| E.mv rfl rfl <| E.mv rfl rfl <| ?_
                refine E.idx (sz := 1) rfl rfl hD4.ob.rd Try.underlying45 (by kernel_rfl) (by omega) (by omega) (by decide) rfl ?_
                rw [show (j : Int).toNat * 1 = j from by omega]
                refine E.store rfl rfl (by kernel_rfl) (one_of_rd ho4.rd) c1 c2 ?_
                refine E.nil <| X.outN <| X.join ⟨k, va, vb, bl, vs.set j m2, ls.set j (ls[j] ++ os[k].l)⟩ (Sub.cons rfl <| Sub.cons rfl <| Sub.cons rfl <| Sub.cons rfl <| Sub.nil _) ⟨hD5, by simpa using hlen, hpos, by simp only; omega, fun l hl => ?_, hx5⟩
                rcases List.mem_or_eq_of_mem_set hl with hl | rfl
                · have := hshort l hl; omega
                · rw [List.length_append]; omega
            ·
              obtain ⟨rj1, rj2⟩ := hD.rd j vs[j] ls[j] (List.getElem?_eq_getElem hjv) (List.getElem?_eq_getElem hjs)
              refine C.seq <| C.region <| E.mv rfl rfl <| E.mv rfl rfl <| ?_
              refine E.get (k := j) rfl rfl hD.oa.rd rfl hjl Try.underlying44 (by kernel_rfl) Try.underlying42 rfl rfl rfl ?_
              refine E.call rfl rfl (Clone_ret bl[j] _ _ _ (hD.dig j bl[j] ls[j] (List.getElem?_eq_getElem hjl) (List.getElem?_eq_getElem hjs))) ?_
              rintro _ _ ⟨rfl, rfl⟩
              have hn1 := Ext.new wk (.cells (dgst (Crc.reg 0xffffffff#32 ls[j]) ls[j].length true) 54)
              have hD1 := hD.keep hn1
              refine E.asg rfl rfl <| E.nil <| X.next <| C.seq <| C.seq <| C.region <| E.mv rfl rfl <| E.eqnil rfl rfl Try.underlying42 rfl <| E.nil <| X.next <| ?_
              refine C.condF rfl ?_
              ·
                refine C.skip <| X.next <| C.seq <| C.region <| E.mv rfl rfl <| E.mv rfl rfl <| ?_
                refine E.pushL (enc := pd) wk.heap.size rfl rfl Try.underlying44 elem_Tp_checksum_Digest hD1.oa rfl (by omega) (by omega) (hx.trans hn1).size (by simp) rfl rfl ?_
                intro va' w2 ho2 g2 l2
                have hD2 := hD.clone hx.size ho2 g2 l2
                have hx2 : Ext w w2 := (hx.trans hn1).own hD1.oa g2 (Nat.le_refl _)
                obtain ⟨sj1, sj2⟩ := hD2.rd j vs[j] ls[j] (List.getElem?_eq_getElem hjv) (List.getElem?_eq_getElem hjs)
                refine E.asg rfl rfl <| E.nil <| X.next <| C.region <| E.mv rfl rfl <| E.mv rfl rfl <| E.mv rfl rfl <| ?_
                refine E.get (k := j) rfl rfl hD2.ob.rd rfl hjv Try.underlying45 (by kernel_rfl) Try.underlying22 rfl rfl rfl ?_
                refine E.pushL (enc := fun v : Value => v) vs[j] rfl rfl Try.underlying45 elem_Tsl_uint8 hD2.ob (one_of_rd sj1) (by omega) (by omega) hx2.size (by simp) rfl rfl ?_
                intro vb' w3 ho3 g3 l3
                have hD3 := hD2.more ho3 g3 l3 sj1 sj2
                have hx3 : Ext w w3 := hx2.own hD2.ob g3 (Nat.le_refl _)
                refine E.asg rfl rfl <| E.nil <| X.outN <| X.join ⟨k, va', vb', bl ++ [wk.heap.size], vs ++ [vs[j]], ls ++ [ls[j]]⟩ (Sub.cons rfl <| Sub.cons rfl <| Sub.cons rfl <| Sub.cons rfl <| Sub.nil _) ⟨hD3, by simp [hlen], by simp, by simp; omega, fun l hl => ?_, hx3⟩
                rcases List.mem_append.1 hl with hl | hl
                · have := hshort l hl; omega
                · have : l = ls[j] := by simpa using hl
                  subst this; omega
          ·
            rintro g wg hg
            refine C.region <| E.mv rfl rfl <| ?_
            refine E.add rfl rfl (by omega) rfl ?_
            refine E.asg rfl rfl <| E.nil <| X.again ⟨k + 1, g.va, g.vb, g.bl, g.vs, g.ls⟩ (Sub.cons rfl <| Sub.cons rfl <| Sub.cons rfl <| Sub.cons rfl <| Sub.nil _) ⟨hk', hg.1, hg.2, hg.3, hg.4, hg.5, hg.6⟩ (by simp only; omega)
        ·
          obtain ⟨hD, hlen, hpos, hfew, hshort, hx⟩ := hI
          simp only at hD hlen hpos hfew hshort
          have hlsl := hD.rl
          refine C.exit <| X.exitT <| X.exitT <| X.outE <| X.next <| C.seq <| C.seq <| C.region <| E.asg rfl rfl <| E.nil <| X.next <| C.block <| ?_

          refine C.loop (G := Nat) (fun i => [(4, va), (5, vb), (10, i64 i)]) (fun i w' => i ≤ bl.length ∧ Ext wk w') (fun i => bl.length - i) 0 ?_ ?_ ?_
          · exact Sub.cons rfl <| Sub.cons rfl <| Sub.cons rfl <| Sub.nil _
          · exact ⟨by omega, Ext.refl _⟩
          · rintro i wi ⟨hi, hxi⟩
            have hDi := hD.keep hxi
            refine C.seq <| C.seq <| C.region <| E.mv rfl rfl <| E.mv rfl rfl <| ?_
            refine E.lenv rfl hD.oa.rd.shape Try.underlying44 rfl ?_
            refine E.bin rfl rfl rfl rfl <| E.nil <| X.next <| ?_
            refine C.cond' rfl (fun hc => ?_) (fun hc => ?_)
            ·

              have hil : i < bl.length := by omega
              have hiv : i < vs.length := by omega
              have his : i < ls.length := by omega
              have hdg := hDi.dig i bl[i] ls[i] (List.getElem?_eq_getElem hil) (List.getElem?_eq_getElem his)
              obtain ⟨ri1, ri2⟩ := hDi.rd i vs[i] ls[i] (List.getElem?_eq_getElem hiv) (List.getElem?_eq_getElem his)
              have ei : (i : Int).toNat * 1 = i := by omega
              refine C.skip <| X.next <| C.seq <| C.block <| C.seq <| C.drawn (by kernel_rfl) (by kernel_rfl) <| ?_
              refine Q.mv rfl rfl ?_
              refine Q.mv rfl rfl ?_
              refine Q.get (k := i) rfl rfl hDi.oa.rd rfl hil Try.underlying44 (by kernel_rfl) Try.underlying42 rfl rfl rfl ?_
              refine Q.call (v := u32 (Crc.crc ls[i])) rfl rfl (fun w' hw' => (Sum_ret bl[i] _ _ w' (hdg.ext hw')).mono fun _ _ ⟨h1, h2⟩ => ⟨h1, h2 ▸ Ext.refl _⟩) ?_
              refine Q.mv rfl rfl ?_
              refine Q.mv rfl rfl ?_
              refine Q.get (k := i) rfl rfl hDi.ob.rd rfl hiv Try.underlying45 (by kernel_rfl) Try.underlying22 rfl rfl rfl ?_
              refine Q.call (v := u32 (Crc.crc ls[i])) rfl rfl (fun w' hw' => (rCRC32_ret vs[i] ls[i] w' (ri1.ext hw')).mono fun _ _ ⟨h1, h2⟩ => ⟨h1, h2 ▸ Ext.refl _⟩) ?_
              refine Q.binw rfl rfl rfl (bneF rfl) rfl ?_
              refine Q.mv rfl rfl ?_
              refine Q.on rfl rfl (Q.mv rfl rfl ?_)
              refine Q.on rfl rfl (Q.mv rfl rfl ?_)
              refine Q.on rfl rfl (Q.idx (sz := 1) rfl rfl hDi.oa.rd Try.underlying44 (by kernel_rfl) (by omega) (by omega) (by decide) rfl ?_)
              rw [ei]
              refine Q.on rfl rfl (Q.load rfl Try.underlying42 rfl (hDi.oa.rd.cell hil) rfl ?_)
              refine Q.on rfl rfl (Q.call (v := i64 ls[i].length) rfl rfl (fun w' hw' => (Len_ret bl[i] _ _ w' (hdg.ext hw')).mono fun _ _ ⟨h1, h2⟩ => ⟨h1, h2 ▸ Ext.refl _⟩) ?_)
              refine Q.on rfl rfl (Q.mv rfl rfl ?_)
              refine Q.on rfl rfl (Q.mv rfl rfl ?_)
              refine Q.on rfl rfl (Q.idx (sz := 1) rfl rfl hDi.ob.rd Try.underlying45 (by kernel_rfl) (by omega) (by omega) (by decide) rfl ?_)
              rw [ei]
              refine Q.on rfl rfl (Q.load rfl Try.underlying22 rfl (hDi.ob.rd.cell hiv) rfl ?_)
              refine Q.on rfl rfl (Q.lenv rfl ri1.shape Try.underlying22 rfl ?_)
              refine Q.on rfl rfl (Q.binw rfl rfl rfl (bneF rfl) rfl ?_)
              refine Q.pick rfl rfl rfl ?_
              refine Q.nil <| fun wj hxj => X.next <| ?_
              refine C.condF rfl ?_
              ·
                refine C.skip <| X.outN <| X.next <| C.region <| E.mv rfl rfl <| ?_
                refine E.add rfl rfl (by omega) rfl ?_
                refine E.asg rfl rfl <| E.nil <| X.again (i + 1) (Sub.cons rfl <| Sub.cons rfl <| Sub.cons rfl <| Sub.nil _) ⟨by omega, hxi.trans hxj⟩ (by omega)
            ·
              refine C.exit <| X.exitT <| X.exitT <| X.outE <| X.next <| C.seq <| C.region <| ?_
              refine E.call rfl rfl (exampleHolds_ret _) ?_
              rintro _ w9 ⟨rfl, hx9⟩
              refine E.asg rfl rfl <| E.nil <| X.next <| C.ret <| ret1 rfl rfl ?_
              exact ⟨rfl, (hx.trans hxi).trans hx9⟩
end Go.Proofs.Ytmekdfkcjhgkdaa
