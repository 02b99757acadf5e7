/- Texts of the claim, laid together: Label, AnsM, FdX, Fd12. -/
import Derived.Test.Ytbinlkobmlebpaax0
import Derived.Test.Ytbinlkobmlebpaax3
import Derived.Test.Ytbinlkobmlebpaax10
import Derived.Test.Ytbinlkobmlebpaax11
import Derived.Test.Ytbinlkobmlebpaax12
set_option linter.unusedSimpArgs false
set_option linter.unusedVariables false
namespace Go.Proofs.Ytbinlkobmlebpaa
open Go.RowKit Sym Uf
theorem small_nat {a : Nat} (h : a ≤ 5000000) : (a : Int) ≤ 5000000 := by omega
set_option maxHeartbeats 2000000 in
theorem Label_ret (W Ht : Int) (vd : Value) (dk : List Bool) (eight : Bool) (w : World) (hrd : RdL Value.bool w vd dk) :
    Ret Try.prog 37 #[mat W Ht vd, .bool eight] w fun v w' => LabelAns W Ht dk eight v w w' ∧ Ext w w' := by
  refine enter Try.func37 rfl (by kernel_rfl) Try.ntmps37 rfl ?_
  refine C.seq <| C.region <| ?_
  refine E.boxB (cs := [i64 W, i64 Ht, vd]) rfl rfl rfl ?_
  intro w1 b1 x1 z1
  refine E.asg rfl rfl <| E.asg rfl rfl <| E.asg rfl rfl <| E.nil <| X.next <| C.seq <| C.seq <| C.region <| ?_
  refine E.loadA rfl Try.underlying37 rfl (by kernel_rfl) (b1.at 0 [i64 W, i64 Ht, vd] (fun j u h => by simpa using h)) rfl ?_
  refine E.call rfl rfl (Check_ret W Ht vd dk.length _ hrd.shape) ?_
  rintro _ w2 ⟨rfl, x2⟩
  refine E.asg rfl rfl <| E.nil <| X.next <| C.seq <| C.region <| E.mv rfl rfl <| E.bin rfl rfl rfl rfl <| E.nil <| X.next <| ?_
  refine C.cond' rfl (fun hc => ?_) (fun hc => ?_)
  ·
    refine C.seq <| C.region <| E.mv rfl rfl <| E.asg rfl rfl <| E.asg rfl rfl <| E.asg rfl rfl <| E.nil <| X.next <| C.ret <| X.retT <| ret3 rfl rfl rfl rfl ?_
    have hno : ¬ okMat W Ht dk.length := fun h => by rw [if_pos h] at hc; exact hc rfl
    exact ⟨.inl ⟨hno, by rw [if_neg hno]⟩, x1.trans x2⟩
  ·
    have hok : okMat W Ht dk.length := Decidable.byContradiction fun h => by rw [if_neg h] at hc; exact hc (by decide)
    obtain ⟨⟨o1, o2, o3, o4, o5⟩, o6⟩ := hok
    have hok : okMat W Ht dk.length := ⟨⟨o1, o2, o3, o4, o5⟩, o6⟩
    obtain ⟨W', hW'⟩ : ∃ W' : Nat, W = (W' : Int) := ⟨W.toNat, by omega⟩
    obtain ⟨H', hH'⟩ : ∃ H' : Nat, Ht = (H' : Int) := ⟨Ht.toNat, by omega⟩
    subst hW' hH'
    obtain ⟨n, hn⟩ : ∃ n, dk.length = n := ⟨_, rfl⟩
    rw [hn] at o6
    have hn0 : n ≤ 4194304 := by omega
    have y2 := x1.trans x2
    refine C.skip <| X.next <| C.seq <| C.region <| ?_
    refine E.fld (o := 2) (sz := 0) rfl Try.underlying37 rfl rfl (by kernel_rfl) rfl ?_
    refine E.load rfl Try.underlying35 rfl ((b1.ext x2).cell 2) rfl ?_
    refine E.len rfl (hrd.ext y2) Try.underlying35 rfl ?_
    rw [hn]
    refine E.make (enc := i64) (by_ := 8) (0 : Int) rfl Try.underlying45 (by kernel_rfl) rfl (by omega) (by omega) w.heap.size y2.size rfl ?_
    intro va w3 oa3 x3 na3 z3
    have y3 := y2.trans x3
    refine E.asg rfl rfl <| E.nil <| X.next <| C.seq <| C.region <| ?_
    refine E.mkmap .i32 i64 rfl ?_
    intro w4 mp4 x4 z4
    have y4 := y3.trans x4
    have b4 := b1.ext (x2.trans (x3.trans x4))
    refine E.asg rfl rfl <| E.nil <| X.next <| C.seq <| C.region <| E.asg rfl rfl <| E.nil <| X.next <| C.seq <| C.seq <| C.region <| ?_
    refine E.loadA rfl Try.underlying37 rfl (by kernel_rfl) (b4.at 0 [i64 W', i64 H', vd] (fun j u h => by simpa using h)) rfl ?_
    refine E.mv rfl rfl <| ?_
    refine E.call rfl rfl (sets_ret W' H' vd dk true eight _ (hrd.ext y4) (by omega) (by omega) (by omega)) ?_
    rintro vs w5 ⟨s, os5, hP, x5⟩
    have y5 := y4.trans x5
    have hsl : s.length = n := by rw [hP.len]; exact hn
    obtain ⟨bm, hbm⟩ : ∃ bm, bm = w.heap.size := ⟨_, rfl⟩
    obtain ⟨r, hr⟩ : ∃ r, r = w3.heap.size := ⟨_, rfl⟩
    have q1 := y2.size
    have q2 := x2.size
    rw [← hr] at mp4
    have hlw : LW w5 w.heap.size bm r va vs vd (W' : Int) (H' : Int) s (List.replicate n 0) [] nilS [] := by
      refine { hm := hbm ▸ b4.ext x5, ol := oa3.kept (x4.trans x5), mp := mp4.ext x5, ob := OwnF.nil _ _ _ _ _, os := Own.lower os5 y4.size, rB := by omega, a1 := ?_, a2 := ?_, b1 := nofun, b2 := nofun, s1 := ?_, mr := by omega, ab := (Apart.nil _).symm, avs := ?_, bvs := Apart.nil _ }
      · rw [na3]; intro e; have := Option.some.inj e; omega
      · rw [na3]; intro e; have := Option.some.inj e; omega
      · intro e; have := (World.ownsRow.lt os5 _ e).1; omega
      · intro g h1 h2; rw [na3] at h1; have := Option.some.inj h1; have := (World.ownsRow.lt os5 _ h2).1; omega
    have hI0 : LInv (DD dk true) (RR W' eight dk true) W' n s 0 (List.replicate n 0) [] [] := ⟨by simp, fun i hi => by omega, fun i hi => by omega, fun f hf => by omega, fun z v hz => by simp [aget] at hz, rfl, by simp [nf], fun f hf => by omega⟩
    have hrr : ∀ i, RR W' eight dk true i i := fun i => Cl.refl i
    have hrs : ∀ i j, RR W' eight dk true i j → RR W' eight dk true j i := fun i j h => h.symm
    have hrt : ∀ i j k, RR W' eight dk true i j → RR W' eight dk true j k → RR W' eight dk true i k := fun i j k h h' => h.trans h'
    have hRs : ∀ i j z, DD dk true i → DD dk true j → s[i]? = some z → s[j]? = some z → RR W' eight dk true i j := fun i j z h1 h2 h3 h4 => (hP.same i j z h1 h2 h3).1 h4
    have hRt : ∀ i j z, DD dk true i → DD dk true j → s[i]? = some z → RR W' eight dk true i j → s[j]? = some z := fun i j z h1 h2 h3 h4 => (hP.same i j z h1 h2 h3).2 h4
    have hDn : ∀ i, DD dk true i → i < n := fun i hi => by have := (List.getElem?_eq_some_iff.1 hi).1; omega
    rw [← hbm, ← hr]
    clear mp4 oa3 os5 b1 b4 na3
    refine E.len rfl hlw.os.rd Try.underlying107 rfl ?_
    rw [hsl]
    refine E.mv rfl rfl <| E.nil <| X.next <| C.block <| ?_

    refine C.loop (G := LG) (fun g => [(2, pv bm), (8, va), (9, .map (some r)), (10, g.vb), (28, vs), (29, i64 n), (30, i64 (g.k : Nat))]) (fun g w' => g.k ≤ n ∧ LW w' w.heap.size bm r va vs vd (W' : Int) (H' : Int) s g.lab g.m g.vb g.bl ∧ LInv (DD dk true) (RR W' eight dk true) W' n s g.k g.lab g.m g.bl ∧ Ext w w') (fun g => n - g.k) ⟨0, List.replicate n 0, [], nilS, []⟩ ?_ ?_ ?_
    · exact Sub.cons rfl <| Sub.cons rfl <| Sub.cons rfl <| Sub.cons rfl <| Sub.cons rfl <| Sub.cons rfl <| Sub.cons rfl <| Sub.nil _
    · exact ⟨Nat.zero_le _, hlw, hI0, y5⟩
    · clear hlw hI0
      rintro ⟨k, lab, m, vb, bl⟩ wk ⟨hk, hL, hI, hx⟩
      simp only at hk hL hI
      refine C.seq <| C.region <| E.bin rfl rfl rfl rfl <| E.nil <| X.next <| C.seq <| ?_
      refine C.cond' rfl (fun hc => ?_) (fun hc => ?_)
      ·
        have hk' : k < n := by have hc' : (k : Int) < (n : Int) := hc; omega
        have hks : k < s.length := by omega
        have hkl : k < lab.length := by have := hI.len; omega
        refine C.skip <| X.next <| ?_

        refine C.cut (G := LG) (fun g => [(2, pv bm), (8, va), (9, .map (some r)), (10, g.vb), (28, vs), (29, i64 n), (30, i64 (k : Nat))]) (fun g w' => LW w' w.heap.size bm r va vs vd (W' : Int) (H' : Int) s g.lab g.m g.vb g.bl ∧ LInv (DD dk true) (RR W' eight dk true) W' n s (k + 1) g.lab g.m g.bl ∧ Ext w w') ?_ ?_
        ·
          refine C.block <| C.seq <| C.region <| E.mv rfl rfl <| ?_
          refine E.get (k := k) rfl rfl hL.os.rd rfl hks Try.underlying107 (by kernel_rfl) Try.underlying21 rfl rfl rfl ?_
          refine E.asg rfl rfl <| E.asg rfl rfl <| E.nil <| X.next <| C.seq <| C.seq <| C.region <| E.mv rfl rfl <| E.bin rfl rfl rfl rfl <| E.nil <| X.next <| ?_
          refine C.cond' rfl (fun hc => ?_) (fun hc => ?_)
          ·
            refine C.seq <| C.region <| E.mv rfl rfl <| E.mv rfl rfl <| ?_
            refine E.idx (sz := 1) rfl rfl hL.ol.rd Try.underlying45 (by kernel_rfl) (by show (0 : Int) ≤ (k : Int); omega) (by show (k : Int) < (lab.length : Int); omega) (by decide) rfl ?_
            rw [show (k : Int).toNat * 1 = k from by omega]
            refine E.store rfl rfl (by kernel_rfl) rfl (hL.ol.cellAt hkl).1 (hL.ol.cellAt hkl).2.1 ?_
            obtain ⟨hL1, f1⟩ := hL.setL hkl (-1)
            have hnd : ¬ DD dk true k := hP.off' (by rw [List.getElem?_eq_getElem hks]; exact congrArg some hc)
            refine E.nil <| X.next <| C.exit <| X.exitT <| X.outE <| X.join ⟨k, lab.set k (-1), m, vb, bl⟩ (Sub.cons rfl <| Sub.cons rfl <| Sub.cons rfl <| Sub.cons rfl <| Sub.cons rfl <| Sub.cons rfl <| Sub.cons rfl <| Sub.nil _) ⟨hL1, hI.light hk' hnd, f1 _ hx (Nat.le_refl _)⟩
          ·
            have hsz : s[k]? = some s[k] := List.getElem?_eq_getElem hks
            have hDk : DD dk true k := hP.on' (by omega) (by rw [hsz]; intro e; exact hc (Option.some.inj e))
            refine C.skip <| X.next <| C.seq <| C.region <| E.mv rfl rfl <| E.mv rfl rfl <| ?_
            refine E.lookup (z := i64 0) rfl rfl Try.underlying106 Try.underlying21 (by kernel_rfl) hL.mp rfl ?_

            refine E.mv rfl rfl <| E.ext rfl rfl rfl <| E.ext rfl rfl rfl <| ?_
            obtain ⟨qv, hqv⟩ : ∃ qv, ((aget m s[k]).map i64).getD (i64 0) = qv := ⟨_, rfl⟩
            obtain ⟨okb, hokb⟩ : ∃ okb, (aget m s[k]).isSome = okb := ⟨_, rfl⟩
            rw [hqv, hokb]
            refine E.asg rfl rfl <| E.asg rfl rfl <| E.nil <| X.next <| C.seq <| C.held (fun w' => LW w' w.heap.size bm r va vs vd (W' : Int) (H' : Int) s lab m vb bl) (by kernel_rfl) fun wh hwh hhh => ?_
            have hS := hL.ext hwh
            have hxh := hx.trans hwh
            refine H.take 0 rfl rfl (by kernel_rfl) (by kernel_rfl) (by kernel_rfl) hS (fun w' hS => Y.mv rfl) rfl ?_
            refine H.take 1 rfl rfl (by kernel_rfl) (by kernel_rfl) (by kernel_rfl) hS (fun w' hS => Y.fld (o := 0) (sz := 0) rfl Try.underlying37 rfl rfl (by kernel_rfl)) rfl ?_
            refine H.take 4 rfl rfl (by kernel_rfl) (by kernel_rfl) (by kernel_rfl) hS (fun w' hS => Y.mv rfl) rfl ?_
            refine H.take 5 rfl rfl (by kernel_rfl) (by kernel_rfl) (by kernel_rfl) hS (fun w' hS => Y.fld (o := 0) (sz := 0) rfl Try.underlying37 rfl rfl (by kernel_rfl)) rfl ?_
            refine H.take 2 rfl rfl (by kernel_rfl) (by kernel_rfl) (by kernel_rfl) hS (fun w' hS => Y.load rfl Try.underlying3 rfl (hS.hm.cell 0)) rfl ?_
            refine H.take 3 rfl rfl (by kernel_rfl) (by kernel_rfl) (by kernel_rfl) hS (fun w' hS => Y.rem rfl rfl (by omega) (IntWalk.rem_in _ _ (by omega))) rfl ?_
            refine H.take 6 rfl rfl (by kernel_rfl) (by kernel_rfl) (by kernel_rfl) hS (fun w' hS => Y.load rfl Try.underlying3 rfl (hS.hm.cell 0)) rfl ?_
            refine H.take 7 rfl rfl (by kernel_rfl) (by kernel_rfl) (by kernel_rfl) hS (fun w' hS => Y.quo rfl rfl (by omega) (IntWalk.i64_quo _ _ (by omega))) rfl ?_
            rw [show (k : Int) % (W' : Int) = ((k % W' : Nat) : Int) from rfl, show (k : Int) / (W' : Int) = ((k / W' : Nat) : Int) from rfl]
            refine H.take 8 rfl rfl (by kernel_rfl) (by kernel_rfl) (by kernel_rfl) hS (fun w' hS => Y.build (cs := [i64 ((k % W' : Nat) : Int), i64 ((k / W' : Nat) : Int)]) rfl (by kernel_rfl)) rfl ?_
            refine H.only 9 rfl (by kernel_rfl) ?_
            refine E.allocB (z := .agg #[i64 0, i64 0]) (cs := [i64 0, i64 0]) (by kernel_rfl) rfl rfl ?_
            intro w6 b6 x6 z6
            have hS := hS.ext x6
            refine H.back hS ?_
            refine H.only 10 rfl (by kernel_rfl) ?_
            refine E.storeBA (cs := [i64 ((k % W' : Nat) : Int), i64 ((k / W' : Nat) : Int)]) rfl rfl (by kernel_rfl) b6 rfl (by intro u hu; simp at hu; rcases hu with rfl | rfl <;> rfl) ?_
            intro w7 b7 g7 z7
            have x7 : Ext wh w7 := x6.ofGrown g7 (Nat.le_refl _)
            have hS : LW w7 w.heap.size bm r va vs vd (W' : Int) (H' : Int) s lab m vb bl := (hL.ext hwh).ext x7
            obtain ⟨bp, hbp⟩ : ∃ bp, bp = wh.heap.size := ⟨_, rfl⟩
            have nbp : vb.ownBlock ≠ some bp := fun e => by have := (World.ownsRow.lt (hL.ext hwh).ob.2 _ e).2; omega
            have nap : va.ownBlock ≠ some bp := fun e => by have := (World.ownsRow.lt (hL.ext hwh).ol _ e).2; omega
            have y7 := hxh.trans x7
            rw [← hbp] at b7 ⊢
            refine H.back hS ?_
            refine H.done (by kernel_rfl) <| X.next <| ?_

            refine C.cut (G := List (Int × Int) × Value × List Bl × Nat) (fun g => [(2, pv bm), (8, va), (9, .map (some r)), (10, g.2.1), (11, i64 (k : Nat)), (13, i64 ((nf (DD dk true) (RR W' eight dk true) g.2.2.2 : Nat) : Int)), (15, pv bp), (28, vs), (29, i64 n), (30, i64 (k : Nat))]) (fun g w' => LW w' w.heap.size bm r va vs vd (W' : Int) (H' : Int) s lab g.1 g.2.1 g.2.2.1 ∧ LMid (DD dk true) (RR W' eight dk true) W' n s k g.1 g.2.2.1 g.2.2.2 ∧ Blk w' bp 64 #[i64 ((k % W' : Nat) : Int), i64 ((k / W' : Nat) : Int)] ∧ g.2.1.ownBlock ≠ some bp ∧ Ext w w') ?_ ?_
            ·
              refine C.seq <| C.region <| E.mv rfl rfl <| E.not rfl rfl <| E.nil <| X.next <| ?_
              refine C.cond rfl (fun hc => ?_) (fun hc => ?_)
              ·
                have hnone : aget m s[k] = none := by
                  cases hq : aget m s[k] with
                  | none => rfl
                  | some q => rw [hq] at hokb; simp at hokb; rw [← hokb] at hc; simp at hc
                have hF := hI.isNew hrr hrt hRt hrs hDk hsz hnone
                refine C.seq <| C.seq <| C.region <| E.mv rfl rfl <| ?_
                refine E.lenv rfl hS.ob.rd.shape Try.underlying69 rfl ?_
                refine E.bin rfl rfl rfl rfl <| E.nil <| X.next <| ?_
                refine C.cond' rfl (fun hc => ?_) (fun hc => ?_)
                ·
                  refine C.seq <| C.region <| E.asg rfl rfl <| E.asg rfl rfl <| E.asg rfl rfl <| E.nil <| X.next <| C.ret <| X.retT <| X.retT <| X.retB <| X.retT <| X.retT <| X.retB <| X.retT <| ret3 rfl rfl rfl rfl ?_
                  have hnk : nf (DD dk true) (RR W' eight dk true) k = 65536 := by have := hI.num; omega
                  refine ⟨.inr (.inl ⟨hok, ?_, rfl⟩), y7⟩
                  have hlt := nf_lt hF hk'
                  rw [show ((W' : Nat) : Int).toNat = W' from rfl, hn]; omega
                ·
                  have hfew : nf (DD dk true) (RR W' eight dk true) k < 65536 := by have := hI.num; have := hI.few; omega
                  refine C.skip <| X.next <| C.seq <| C.region <| E.mv rfl rfl <| ?_
                  refine E.lenv rfl hS.ob.rd.shape Try.underlying69 rfl ?_
                  rw [hI.num]
                  refine E.asg rfl rfl <| E.nil <| X.next <| C.seq <| C.region <| E.mv rfl rfl <| E.mv rfl rfl <| E.mv rfl rfl <| ?_
                  refine E.mput ((nf (DD dk true) (RR W' eight dk true) k : Nat) : Int) rfl rfl rfl Try.underlying106 Try.underlying21 hS.mp ?_
                  intro w8 mp8 g8 z8
                  have hL8 := hS.put g8 mp8
                  have b8 := Blk.apart b7 g8 (fun e => by have := Option.some.inj e; have := (hL.ext hwh).mp.lt; omega)
                  have y8 : Ext w w8 := y7.ofGrown g8 hS.rB
                  refine E.nil <| X.next <| C.region <| E.mv rfl rfl <| ?_
                  refine E.fld (o := 0) (sz := 0) rfl Try.underlying64 rfl rfl (by kernel_rfl) rfl ?_
                  refine E.load rfl Try.underlying3 rfl (b8.cell 0) rfl ?_
                  refine E.fld (o := 1) (sz := 0) rfl Try.underlying64 rfl rfl (by kernel_rfl) rfl ?_
                  refine E.load rfl Try.underlying3 rfl (b8.cell 1) rfl ?_
                  refine E.build (cs := [i64 ((k % W' : Nat) : Int), i64 ((k / W' : Nat) : Int), i64 1, i64 1]) rfl (by kernel_rfl) rfl ?_
                  refine E.loadA rfl Try.underlying64 rfl (by kernel_rfl) (b8.at 0 [i64 ((k % W' : Nat) : Int), i64 ((k / W' : Nat) : Int)] (fun j u h => by simpa using h)) rfl ?_
                  refine E.build (cs := Bl.cells ⟨((k % W' : Nat) : Int), ((k / W' : Nat) : Int), 1, 1, 0, ((k % W' : Nat) : Int), ((k / W' : Nat) : Int)⟩) rfl (by kernel_rfl) rfl ?_
                  refine E.pushF (enc := Bl.cells) ⟨((k % W' : Nat) : Int), ((k / W' : Nat) : Int), 1, 1, 0, ((k % W' : Nat) : Int), ((k / W' : Nat) : Int)⟩ rfl rfl Try.underlying69 elem_Tapi_Blob hL8.ob rfl (by decide) (by intro u hu; simp [Bl.cells] at hu; rcases hu with rfl | rfl | rfl | rfl | rfl | rfl | rfl <;> rfl) (by have := hI.num; omega) (by have := hI.num; omega) y8.size (by simp) rfl rfl ?_
                  intro vb' w9 ob9 g9 l9
                  have hL9 := hL8.blobs g9 ob9 l9
                  have b9 := Blk.apart b8 g9 nbp
                  have y9 : Ext w w9 := y8.own hL8.ob.2 g9 (Nat.le_refl _)
                  have nb9 : vb'.ownBlock ≠ some bp := by
                    rcases l9 with l9 | ⟨y, l9, hge⟩
                    · rw [l9]; exact nbp
                    · rw [l9]; intro e; have := Option.some.inj e; have := b8.lt; omega
                  refine E.asg rfl rfl <| E.nil <| X.join (aput m s[k] ((nf (DD dk true) (RR W' eight dk true) k : Nat) : Int), vb', bl ++ [⟨((k % W' : Nat) : Int), ((k / W' : Nat) : Int), 1, 1, 0, ((k % W' : Nat) : Int), ((k / W' : Nat) : Int)⟩], k) (Sub.cons rfl <| Sub.cons rfl <| Sub.cons rfl <| Sub.cons rfl <| Sub.cons rfl <| Sub.cons rfl <| Sub.cons rfl <| Sub.cons rfl <| Sub.cons rfl <| Sub.cons rfl <| Sub.nil _) ⟨hL9, hI.fresh hrr hRs hF hsz hfew, b9, nb9, y9⟩
              ·
                obtain ⟨q, hq⟩ : ∃ q, aget m s[k] = some q := by
                  cases hq : aget m s[k] with
                  | none => rw [hq] at hokb; simp at hokb; rw [← hokb] at hc; simp at hc
                  | some q => exact ⟨q, rfl⟩
                obtain ⟨f, hM, rfl⟩ := hI.old hRs hDk hsz hq
                rw [hq] at hqv
                have hqv' : qv = i64 ((nf (DD dk true) (RR W' eight dk true) f : Nat) : Int) := hqv.symm
                subst hqv'
                refine C.skip <| X.join (m, vb, bl, f) (Sub.cons rfl <| Sub.cons rfl <| Sub.cons rfl <| Sub.cons rfl <| Sub.cons rfl <| Sub.cons rfl <| Sub.cons rfl <| Sub.cons rfl <| Sub.cons rfl <| Sub.cons rfl <| Sub.nil _) ⟨hS, hM, b7, nbp, y7⟩
            ·
              rintro ⟨m, vb, bl, f⟩ w8 ⟨hL8, hM, b8, nb8, y8⟩
              simp only at hL8 hM nb8
              obtain ⟨b, hb, hbs⟩ := hM.now hrs (by omega) (by omega) (by omega)
              have hq : nf (DD dk true) (RR W' eight dk true) f < bl.length := (List.getElem?_eq_some_iff.1 hb).1
              have hbq : bl[nf (DD dk true) (RR W' eight dk true) f] = b := by have := List.getElem?_eq_getElem hq; rw [hb] at this; exact (Option.some.inj this).symm
              refine C.seq <| C.region <| E.mv rfl rfl <| E.mv rfl rfl <| E.mv rfl rfl <| ?_
              refine E.idx (sz := 1) rfl rfl hL8.ol.rd Try.underlying45 (by kernel_rfl) (by omega) (by omega) (by decide) rfl ?_
              rw [show (k : Int).toNat * 1 = k from by omega]
              refine E.store rfl rfl (by kernel_rfl) rfl (hL8.ol.cellAt hkl).1 (hL8.ol.cellAt hkl).2.1 ?_
              obtain ⟨hL9, f9⟩ := hL8.setL hkl ((nf (DD dk true) (RR W' eight dk true) f : Nat) : Int)
              have b9 : Blk (w8.setCell (el va k) (i64 ((nf (DD dk true) (RR W' eight dk true) f : Nat) : Int))) bp 64 #[i64 ((k % W' : Nat) : Int), i64 ((k / W' : Nat) : Int)] := Blk.apart b8 (by have g := grown_set w8 (el va k) (i64 ((nf (DD dk true) (RR W' eight dk true) f : Nat) : Int)); rw [← (hL8.ol.cellAt hkl).2.2] at g; exact g) nap
              have y9 := f9 _ y8 (Nat.le_refl _)

              refine E.nil <| X.next <| C.drawnT 4 (by kernel_rfl) (by kernel_rfl) fun w10 x10 => ?_
              have hL10 := hL9.ext x10
              refine S.mv rfl rfl ?_
              refine S.mv rfl rfl ?_
              refine S.idx (sz := 7) rfl rfl hL10.ob.rd.rd Try.underlying69 (by kernel_rfl) (Int.natCast_nonneg _) (by show ((nf (DD dk true) (RR W' eight dk true) f : Nat) : Int) < (bl.length : Int); omega) (by decide) rfl ?_
              refine S.loadA rfl Try.underlying64 rfl (by kernel_rfl) ((b9.ext x10).at 0 [i64 ((k % W' : Nat) : Int), i64 ((k / W' : Nat) : Int)] (fun j u h => by simpa using h)) rfl ?_
              rw [show ((nf (DD dk true) (RR W' eight dk true) f : Nat) : Int).toNat * 7 = nf (DD dk true) (RR W' eight dk true) f * 7 from by omega]
              refine S.nil ?_
              refine E.call rfl rfl (grow_ret w.heap.size vb bl (nf (DD dk true) (RR W' eight dk true) f) _ _ _ hL10.ob hq (by rw [hbq]; exact hbs) ⟨Int.natCast_nonneg _, small_nat (Nat.le_trans (Nat.mod_le k W') (by omega))⟩ ⟨Int.natCast_nonneg _, small_nat (Nat.le_trans (Nat.div_le_self k W') (by omega))⟩) ?_
              rintro _ w11 ⟨ob11, g11⟩
              rw [hbq] at ob11
              have hL11 := hL10.grown g11 ob11
              have y11 : Ext w w11 := (y9.trans x10).own hL10.ob.2 g11 (Nat.le_refl _)
              refine E.nil <| X.outN <| X.join ⟨k, lab.set k ((nf (DD dk true) (RR W' eight dk true) f : Nat) : Int), m, vb, bl.set (nf (DD dk true) (RR W' eight dk true) f) (b.add ((k % W' : Nat) : Int) ((k / W' : Nat) : Int))⟩ (Sub.cons rfl <| Sub.cons rfl <| Sub.cons rfl <| Sub.cons rfl <| Sub.cons rfl <| Sub.cons rfl <| Sub.cons rfl <| Sub.nil _) ⟨hL11, hM.next hI.len hI.off hI.on hrr hrs hrt hk' hDk hb, y11⟩
        ·
          rintro g wg ⟨hL1, hI1, hx1⟩
          refine C.region <| ?_
          refine E.add rfl rfl (by omega) rfl ?_
          refine E.mv rfl rfl <| E.nil <| X.again ⟨k + 1, g.lab, g.m, g.vb, g.bl⟩ (Sub.cons rfl <| Sub.cons rfl <| Sub.cons rfl <| Sub.cons rfl <| Sub.cons rfl <| Sub.cons rfl <| Sub.cons rfl <| Sub.nil _) ⟨hk', hL1, hI1, hx1⟩ (by simp only; omega)
      ·
        obtain rfl : k = n := by have hc' : ¬ (k : Int) < (n : Int) := hc; omega
        refine C.exit <| X.exitT <| X.exitT <| X.outE <| X.next <| C.seq <| C.region <| E.mv rfl rfl <| E.mv rfl rfl <| E.asg rfl rfl <| E.asg rfl rfl <| E.asg rfl rfl <| E.nil <| X.next <| C.ret <| ret3 rfl rfl rfl rfl ?_
        refine ⟨.inr (.inr ⟨hok, ?_, va, vb, lab, bl, rfl, M.pair hx (Rg.sl_new hL.ol).1 (Rg.sl_new hL.ol).2 ⟨hL.ob.1, Own.lower hL.ob.2 (Nat.zero_le _)⟩ (fun k hk => (World.ownsRow.lt hL.ob.2 k hk).1) (fun k h1 h2 => hL.ab k h1 h2), ?_⟩), hx⟩
        · rw [show ((W' : Nat) : Int).toNat = W' from rfl, hn]; exact hI.few
        · rw [show ((W' : Nat) : Int).toNat = W' from rfl, hn]
          exact ⟨hI.len, hI.off, hI.on, hI.num, hI.blob⟩
end Go.Proofs.Ytbinlkobmlebpaa
namespace Go.Proofs.Ytbinlkobmlebpaa
open Go.RowKit Sym Uf
instance : Inhabited Bl := ⟨⟨0, 0, 0, 0, 0, 0, 0⟩⟩
theorem elem_Tbool : Elem Try.prog 4 1 1 := elem_of (z := .bool false) (by kernel_rfl) rfl (by decide)
theorem LabelAns.uni {W Ht : Int} {dk : List Bool} {eight : Bool} {v : Value} {w0 w : World} (h : LabelAns W Ht dk eight v w0 w) (x : Ext w0 w) : ∃ va vb lab bl e, v = .tuple #[va, vb, i64 e] ∧ M w0 Nn w [Rg.sl i64 3 va lab, Rg.slF Bl.cells 7 73 vb bl] ∧
  ((¬ okMat W Ht dk.length ∧ e = 1 ∧ lab = [] ∧ bl = []) ∨ (okMat W Ht dk.length ∧ 65536 < nf (DD dk true) (RR W.toNat eight dk true) dk.length ∧ e = 4 ∧ lab = [] ∧ bl = []) ∨ (okMat W Ht dk.length ∧ nf (DD dk true) (RR W.toNat eight dk true) dk.length ≤ 65536 ∧ e = 0 ∧ Labelled (DD dk true) (RR W.toNat eight dk true) W.toNat dk.length lab bl)) := by
 rcases h with ⟨h1, rfl⟩ | ⟨h1, h2, rfl⟩ | ⟨h1, h2, va, vb, lab, bl, rfl, m, hL⟩
 · exact ⟨_, _, [], [], _, rfl, ((M.ofExt x).nil i64 3).nilF Bl.cells 7 73, .inl ⟨h1, rfl, rfl, rfl⟩⟩
 · exact ⟨_, _, [], [], _, rfl, ((M.ofExt x).nil i64 3).nilF Bl.cells 7 73, .inr (.inl ⟨h1, h2, rfl, rfl, rfl⟩)⟩
 · exact ⟨_, _, _, _, _, rfl, m, .inr (.inr ⟨h1, h2, rfl, hL⟩)⟩
theorem Labelled.at {D : Nat → Prop} {R : Nat → Nat → Prop} {W n : Nat} {lab : List Int} {bl : List Bl} (h : Labelled D R W n lab bl) {i : Nat} (hi : i < n) (hD : D i) : ∃ (q : Nat), lab[i]? = some (q : Int) ∧ q < bl.length := by
 obtain ⟨f, f1, f2, f3, f4⟩ := h.on i hi hD
 exact ⟨_, f4, by rw [h.num]; exact nf_lt f2 (by omega)⟩
end Go.Proofs.Ytbinlkobmlebpaa
namespace Go.Proofs.Ytbinlkobmlebpaa
open Go.RowKit Sym Uf
namespace Fi
def fil (dk : List Bool) (W x y w h : Nat) : Prop := ∀ r, r < h → ∀ c, c < w → dk.getD ((y + r) * W + x + c) false = true
instance (dk : List Bool) (W x y w h : Nat) : Decidable (fil dk W x y w h) := by unfold fil; exact inferInstance
structure Bx where
 x : Int
 y : Int
 w : Int
 h : Int
deriving DecidableEq
def bxc (b : Bx) : List Value := [i64 b.x, i64 b.y, i64 b.w, i64 b.h]
def ellP (dk : List Bool) (W x y w h : Nat) : Prop := (fil dk W x y 1 h ∨ fil dk W (x + w - 1) y 1 h) ∧ (fil dk W x y w 1 ∨ fil dk W x (y + h - 1) w 1)
instance (dk : List Bool) (W x y w h : Nat) : Decidable (ellP dk W x y w h) := by unfold ellP; exact inferInstance
def elb (dk : List Bool) (W : Nat) (b : Bl) : Option Bx := if 8 ≤ b.w ∧ 8 ≤ b.h ∧ ellP dk W b.x.toNat b.y.toNat b.w.toNat b.h.toNat then some ⟨b.x, b.y, b.w, b.h⟩ else none
def els (dk : List Bool) (W : Nat) (bl : List Bl) : List Bx := bl.filterMap (elb dk W)
theorem els_s {dk : List Bool} {W : Nat} {bl : List Bl} {k : Nat} {x : Bx} (hk : k < bl.length) (h : elb dk W bl[k] = some x) : els dk W (bl.take (k + 1)) = els dk W (bl.take k) ++ [x] := by
 unfold els; rw [← List.take_append_getElem hk, List.filterMap_append]; simp [h]
theorem els_n {dk : List Bool} {W : Nat} {bl : List Bl} {k : Nat} (hk : k < bl.length) (h : elb dk W bl[k] = none) : els dk W (bl.take (k + 1)) = els dk W (bl.take k) := by
 unfold els; rw [← List.take_append_getElem hk, List.filterMap_append]; simp [h]
theorem els_le {dk : List Bool} {W : Nat} {bl : List Bl} (k : Nat) : (els dk W (bl.take k)).length ≤ (els dk W bl).length := by
 have := List.take_append_drop k bl
 conv => rhs; rw [← this]
 unfold els; rw [List.filterMap_append, List.length_append]; omega
theorem blob_in {W H : Nat} {dk : List Bool} {eight : Bool} {lab : List Int} {bl : List Bl} (hW : 0 < W) (h : Labelled (DD dk true) (RR W eight dk true) W (W * H) lab bl) {k : Nat} (hk : k < bl.length) : ∃ x y w h : Nat, bl[k].x = x ∧ bl[k].y = y ∧ bl[k].w = w ∧ bl[k].h = h ∧ 1 ≤ w ∧ 1 ≤ h ∧ x + w ≤ W ∧ y + h ≤ H := by
 have hk2 := hk
 rw [h.num] at hk2
 obtain ⟨f, f1, f2, f3⟩ := nf_surj hk2
 obtain ⟨b, b1, b2⟩ := h.blob f f1 f2
 rw [f3] at b1
 have hbe : bl[k] = b := by rw [List.getElem?_eq_getElem hk] at b1; exact Option.some.inj b1
 rw [hbe]
 have ha := b2.all f f1 f2.1 (Cl.refl f)
 obtain ⟨i1, l1, l2, l3, l4⟩ := b2.left
 obtain ⟨i2, r1, r2, r3, r4⟩ := b2.right
 obtain ⟨i3, d1, d2, d3, d4⟩ := b2.low
 have hy := b2.y
 have m2 := Nat.mod_lt i2 hW
 have m3 : i3 / W < H := Nat.div_lt_of_lt_mul d1
 generalize i1 % W = g1 at *
 generalize i2 % W = g2 at *
 generalize i3 / W = g3 at *
 generalize f / W = g4 at *
 generalize f % W = g5 at *
 exact ⟨b.x.toNat, b.y.toNat, b.w.toNat, b.h.toNat, by omega, by omega, by omega, by omega, by omega, by omega, by omega, by omega⟩
theorem mem_cut {l : List Bool} {a n : Nat} {x : Bool} : x ∈ cutL a (a + n) l ↔ ∃ c, c < n ∧ l[a + c]? = some x := by
  unfold cutL
  rw [Nat.add_sub_cancel_left]
  constructor
  · intro h
    obtain ⟨c, hc, he⟩ := List.getElem_of_mem h
    rw [List.length_take] at hc
    rw [List.getElem_take, List.getElem_drop] at he
    have := List.length_drop (i := a) (l := l)
    exact ⟨c, by omega, by rw [List.getElem?_eq_getElem (by omega), he]⟩
  · rintro ⟨c, hc, he⟩
    obtain ⟨h1, h2⟩ := List.getElem?_eq_some_iff.1 he
    refine List.mem_of_getElem? (i := c) ?_
    rw [List.getElem?_take_of_lt hc, List.getElem?_drop]; exact he
theorem fil_row {dk : List Bool} {W x y w r : Nat} (hb : (y + r) * W + x + w ≤ dk.length) : (false ∈ cutL ((y + r) * W + x) ((y + r) * W + x + w) dk) ↔ ¬ ∀ c, c < w → dk.getD ((y + r) * W + x + c) false = true := by
  rw [mem_cut]
  constructor
  · rintro ⟨c, hc, he⟩ h
    have := h c hc
    rw [List.getD_eq_getElem?_getD, he] at this; cases this
  · intro h
    refine Decidable.byContradiction fun hn => h fun c hc => ?_
    have hlt : (y + r) * W + x + c < dk.length := by omega
    rw [List.getD_eq_getElem?_getD, List.getElem?_eq_getElem hlt]
    cases e : dk[(y + r) * W + x + c] with
    | true => rfl
    | false => exact (hn ⟨c, hc, by rw [List.getElem?_eq_getElem hlt, e]⟩).elim
end Fi
end Go.Proofs.Ytbinlkobmlebpaa
namespace Go.Proofs.Ytbinlkobmlebpaa
open Go.RowKit Sym
theorem elem_Tapi_Box : Elem Try.prog 59 4 32 := elem_of (z := .agg #[.int .i64 0, .int .i64 0, .int .i64 0, .int .i64 0]) (by kernel_rfl) rfl (by decide)
open Fi
def EllV (W H : Int) (dk : List Bool) (w w' : World) (v : Value) : Prop :=
 (¬ okMat W H dk.length ∧ v = .tuple #[nls, i64 1] ∧ Ext w w') ∨
 (okMat W H dk.length ∧ 65536 < nf (DD dk true) (RR W.toNat true dk true) dk.length ∧ v = .tuple #[nls, i64 4] ∧ Ext w w') ∨
 (okMat W H dk.length ∧ nf (DD dk true) (RR W.toNat true dk true) dk.length ≤ 65536 ∧ ∃ lab bl, Labelled (DD dk true) (RR W.toNat true dk true) W.toNat dk.length lab bl ∧
  ((4096 < (els dk W.toNat bl).length ∧ v = .tuple #[nls, i64 4] ∧ Ext w w') ∨ ((els dk W.toNat bl).length ≤ 4096 ∧ ∃ vl, v = .tuple #[vl, i64 0] ∧ M w Nn w' [Rg.slF bxc 4 59 vl (els dk W.toNat bl)])))
theorem indexB_ret (p : Value) (l : List Bool) (x : Bool) (w : World) (hp : RdL Value.bool w p l) :
  Ret Try.prog 105 #[p, .bool x] w fun v w' => ∃ z : Int, v = i64 z ∧ (0 ≤ z ↔ x ∈ l) ∧ Ext w w' := by
 have hM := M.start w
 refine enter Try.func105 rfl (by kernel_rfl) Try.ntmps105 rfl ?_
 refine C.seq <| C.region <| E.asg rfl rfl <| E.nil <| X.next <| C.seq <| C.seq <| C.region <| E.mv rfl rfl <| ?_
 refine E.lenv rfl (Rd.shape (hM.arg0 hp)) Try.underlying35 rfl ?_
 refine E.mv rfl rfl <| E.nil <| X.next <| C.block <| ?_

 refine C.loop1 [(0, _), (1, _), (7, _)] rfl (fun (k : Nat) => [(8, i64 k)]) (fun (k : Nat) w' => M w (Nn) w' [] ∧ k ≤ l.length ∧ ∀ j (h : j < l.length), j < k → l[j] ≠ x) (fun (k : Nat) => l.length - k) 0 ?_ ?_ ?_
 · exact Sub.cons rfl <| Sub.nil _
 · exact ⟨hM, Nat.zero_le _, fun j h h0 => absurd h0 (Nat.not_lt_zero _)⟩
 rintro k w0 ⟨hM, hk, hno⟩
 refine C.seq <| C.region <| E.bin rfl rfl rfl rfl <| E.nil <| X.next <| C.seq <| ?_
 refine C.cond' rfl (fun hC0 => ?_) (fun hC0 => ?_)
 ·
  have hk' : k < l.length := by omega
  have hle := Rd.le hp
  refine C.skip <| X.next <| C.seq <| C.block <| C.seq <| C.region <| E.mv rfl rfl <| E.asg rfl rfl <| E.nil <| X.next <| C.seq <| C.region <| E.mv rfl rfl <| E.mv rfl rfl <| E.mv rfl rfl <| ?_
  refine E.get (k := k) rfl rfl (hM.arg0 hp) rfl hk' Try.underlying35 (by kernel_rfl) Try.underlying4 rfl rfl rfl ?_
  refine E.eqb rfl rfl Try.underlying4 rfl <| E.nil <| X.next <| ?_
  refine C.cond rfl (fun hC1 => ?_) (fun hC1 => ?_)
  ·
   have hxk : x = l[k] := by simpa using hC1
   refine C.seq <| C.region <| E.mv rfl rfl <| E.asg rfl rfl <| E.nil <| X.next <| C.ret <| X.retB <| X.retT <| X.retT <| X.retB <| X.retT <| ret1 rfl rfl ?_
   exact ⟨_, rfl, ⟨fun _ => hxk ▸ List.getElem_mem hk', fun _ => by omega⟩, hM.toExt⟩
  ·
   refine C.skip <| X.outN <| X.next <| C.region <| ?_
   refine E.add rfl rfl (by omega) rfl ?_

   refine E.mv rfl rfl <| E.nil <| X.again1 (k + 1) (Sub.cons rfl <| Sub.nil _) rfl ⟨hM, by omega, fun j h hj => if e : j = k then by subst e; exact fun e2 => by simp [e2] at hC1 else hno j h (by omega)⟩ (by omega)
 ·
  obtain rfl : k = l.length := by omega
  refine C.exit <| X.exitT <| X.exitT <| X.outE <| X.next <| C.seq <| C.region <| E.asg rfl rfl <| E.nil <| X.next <| C.ret <| ret1 rfl rfl ?_
  exact ⟨-1, rfl, ⟨fun h => by omega, fun h => by obtain ⟨j, hj, he⟩ := List.getElem_of_mem h; exact (hno j hj hj he).elim⟩, hM.toExt⟩
theorem containsB_ret (p : Value) (l : List Bool) (x : Bool) (w : World) (hp : RdL Value.bool w p l) :
  Ret Try.prog 90 #[p, .bool x] w fun v w' => v = .bool (decide (x ∈ l)) ∧ Ext w w' := by
 have hM := M.start w
 refine enter Try.func90 rfl (by kernel_rfl) Try.ntmps90 rfl ?_
 refine C.seq <| C.region <| E.asg rfl rfl <| E.nil <| X.next <| C.seq <| C.region <| E.mv rfl rfl <| E.mv rfl rfl <| ?_
 refine E.call rfl rfl (indexB_ret p l x _ (hM.arg0 hp)) ?_
 rintro _ w0 ⟨z, rfl, hz, x0⟩
 have hM := hM.ext x0
 try dsimp only [Za, Zb, Zc, Zd, repl] at hM
 refine E.bin rfl rfl rfl rfl <| E.asg rfl rfl <| E.nil <| X.next <| C.ret <| ret1 rfl rfl ?_
 exact ⟨by congr 1; exact decide_eq_decide.2 hz, hM.toExt⟩
set_option maxHeartbeats 1000000 in
theorem filled_ret (vd : Value) (dk : List Bool) (W H x y bw bh : Nat) (w : World) (hr : RdL Value.bool w vd dk) (hW : 1 ≤ W ∧ W ≤ 4096) (hH : 1 ≤ H ∧ H ≤ 4096) (hn : dk.length = W * H) (hn2 : dk.length ≤ 4194304) (hx : x + bw ≤ W) (hy : y + bh ≤ H) :
  Ret Try.prog 66 #[mat W H vd, i64 x, i64 y, i64 bw, i64 bh] w fun v w' => v = .bool (decide (fil dk W x y bw bh)) ∧ Ext w w' := by
 have hM := M.start w
 refine enter Try.func66 rfl (by kernel_rfl) Try.ntmps66 rfl ?_
 refine C.seq <| C.region <| ?_
 refine E.boxM (cs := [i64 W, i64 H, vd]) hM rfl (by obtain ⟨a, cap, rfl, _⟩ := hr; rfl) rfl ?_
 intro b5 w0 hM
 try dsimp only [Za, Zb, Zc, Zd, repl] at hM
 refine E.asg rfl rfl <| E.nil <| X.next <| C.seq <| C.seq <| C.region <| E.mv rfl rfl <| E.asg rfl rfl <| E.nil <| X.next <| C.block <| ?_

 refine C.loop1 [(1, _), (2, _), (3, _), (4, _), (5, _)] rfl (fun (r : Nat) => [(11, i64 ((y + r : Nat) : Int))]) (fun (r : Nat) w' => M w (Nn) w' [Rg.blk b5 37 [i64 W, i64 H, vd]] ∧ r ≤ bh ∧ ∀ q, q < r → ∀ c, c < bw → dk.getD ((y + q) * W + x + c) false = true) (fun (r : Nat) => bh - r) 0 ?_ ?_ ?_
 · exact Sub.cons rfl <| Sub.nil _
 · exact ⟨hM, Nat.zero_le _, fun q h => absurd h (Nat.not_lt_zero _)⟩
 rintro r w1 ⟨hM, hrb, hal⟩
 refine C.seq <| C.seq <| C.region <| E.mv rfl rfl <| E.mv rfl rfl <| E.mv rfl rfl <| ?_
 refine E.addN (a := y) (b := bh) rfl rfl (by omega) rfl ?_
 refine E.bin rfl rfl rfl rfl <| E.nil <| X.next <| ?_
 refine C.cond' rfl (fun hC0 => ?_) (fun hC0 => ?_)
 ·
  have hr' : r < bh := by omega
  have hrow : ((y + r) * W + x) + bw ≤ dk.length := by
   have h1 := Nat.mul_le_mul_right W (show y + r + 1 ≤ H by omega)
   rw [Nat.add_mul, Nat.one_mul, Nat.mul_comm H W, ← hn] at h1; omega
  refine C.skip <| X.next <| C.seq <| C.block <| C.seq <| C.region <| ?_
  refine E.fld (o := 2) (sz := 0) rfl Try.underlying37 rfl rfl (by kernel_rfl) rfl ?_
  refine E.load rfl Try.underlying35 rfl (hM.bcell 0 rfl rfl) rfl ?_
  refine E.mv rfl rfl <| ?_
  refine E.fld (o := 0) (sz := 0) rfl Try.underlying37 rfl rfl (by kernel_rfl) rfl ?_
  refine E.load rfl Try.underlying3 rfl (hM.bcell 0 rfl rfl) rfl ?_
  refine E.mulN (a := y + r) (b := W) rfl rfl (by omega) rfl ?_
  refine E.mv rfl rfl <| ?_
  refine E.addN (a := (y + r) * W) (b := x) rfl rfl (by omega) rfl ?_
  refine E.mv rfl rfl <| ?_
  refine E.fld (o := 0) (sz := 0) rfl Try.underlying37 rfl rfl (by kernel_rfl) rfl ?_
  refine E.load rfl Try.underlying3 rfl (hM.bcell 0 rfl rfl) rfl ?_
  refine E.mulN (a := y + r) (b := W) rfl rfl (by omega) rfl ?_
  refine E.mv rfl rfl <| ?_
  refine E.addN (a := (y + r) * W) (b := x) rfl rfl (by omega) rfl ?_
  refine E.mv rfl rfl <| ?_
  refine E.addN (a := ((y + r) * W + x)) (b := bw) rfl rfl (by omega) rfl ?_
  refine E.slcP ((y + r) * W + x) (((y + r) * W + x) + bw) rfl (.inl rfl) (.inl rfl) (hM.arg0 hr) Try.underlying35 (by kernel_rfl) (by omega) hrow rfl ?_
  have hc := (hM.arg0 hr).partV (a := ((y + r) * W + x)) (b := ((y + r) * W + x) + bw) (by omega) hrow
  refine E.call rfl rfl (containsB_ret _ (cutL ((y + r) * W + x) (((y + r) * W + x) + bw) dk) false _ hc) ?_
  rintro _ w2 ⟨rfl, x2⟩
  have hM := hM.ext x2
  try dsimp only [Za, Zb, Zc, Zd, repl] at hM
  refine E.nil <| X.next <| ?_
  refine C.cond' rfl (fun hC1 => ?_) (fun hC1 => ?_)
  ·
   refine C.seq <| C.region <| E.asg rfl rfl <| E.nil <| X.next <| C.ret <| X.retB <| X.retT <| X.retT <| X.retB <| X.retT <| ret1 rfl rfl ?_
   exact ⟨by congr 1; exact (decide_eq_false (fun h => (fil_row hrow).1 hC1 (h r hr'))).symm, hM.toExt⟩
  ·
   refine C.skip <| X.outN <| X.next <| C.region <| E.mv rfl rfl <| ?_
   refine E.addN (a := y + r) (b := 1) rfl rfl (by omega) rfl ?_

   refine E.asg rfl rfl <| E.nil <| X.again1 (r + 1) (Sub.cons rfl <| Sub.nil _) rfl ⟨hM, by omega, fun q hq => if e : q = r then by subst e; exact Decidable.byContradiction fun h => hC1 ((fil_row hrow).2 h) else hal q (by omega)⟩ (by omega)
 ·
  obtain rfl : r = bh := by omega
  refine C.exit <| X.exitT <| X.exitT <| X.outE <| X.next <| C.seq <| C.region <| E.asg rfl rfl <| E.nil <| X.next <| C.ret <| ret1 rfl rfl ?_
  exact ⟨by congr 1; exact (decide_eq_true (p := fil dk W x y bw r) hal).symm, hM.toExt⟩
set_option maxHeartbeats 1000000 in
theorem ell_ret (vd : Value) (dk : List Bool) (W H x y bw h : Nat) (w : World) (hr : RdL Value.bool w vd dk) (hW : 1 ≤ W ∧ W ≤ 4096) (hH : 1 ≤ H ∧ H ≤ 4096) (hn : dk.length = W * H) (hn2 : dk.length ≤ 4194304) (hb1 : 1 ≤ bw) (hb2 : 1 ≤ h) (hx : x + bw ≤ W) (hy : y + h ≤ H) :
  Ret Try.prog 38 #[mat W H vd, .agg #[i64 x, i64 y, i64 bw, i64 h]] w fun v w' => v = .bool (decide (ellP dk W x y bw h)) ∧ Ext w w' := by
 have hM := M.start w
 refine enter Try.func38 rfl (by kernel_rfl) Try.ntmps38 rfl ?_
 refine C.seq <| C.region <| ?_
 refine E.boxM (cs := [i64 W, i64 H, vd]) hM rfl (by obtain ⟨a, cap, rfl, _⟩ := hr; rfl) rfl ?_
 intro b2 w0 hM
 try dsimp only [Za, Zb, Zc, Zd, repl] at hM
 refine E.boxM (cs := [i64 x, i64 y, i64 bw, i64 h]) hM rfl rfl rfl ?_
 intro b3 w1 hM
 try dsimp only [Za, Zb, Zc, Zd, repl] at hM
 refine E.asg rfl rfl <| E.nil <| X.next <| C.seq <| C.region <| ?_
 refine E.loadA (cs := [i64 W, i64 H, vd]) rfl Try.underlying37 rfl (by kernel_rfl) (hM.bat 0 rfl) rfl ?_
 refine E.fld (o := 0) (sz := 0) rfl Try.underlying59 rfl rfl (by kernel_rfl) rfl ?_
 refine E.load rfl Try.underlying3 rfl (hM.bcell 1 rfl rfl) rfl ?_
 refine E.fld (o := 1) (sz := 0) rfl Try.underlying59 rfl rfl (by kernel_rfl) rfl ?_
 refine E.load rfl Try.underlying3 rfl (hM.bcell 1 rfl rfl) rfl ?_
 refine E.fld (o := 3) (sz := 0) rfl Try.underlying59 rfl rfl (by kernel_rfl) rfl ?_
 refine E.load rfl Try.underlying3 rfl (hM.bcell 1 rfl rfl) rfl ?_
 refine E.call rfl rfl (filled_ret vd dk W H x y 1 h _ (hM.arg0 hr) hW hH hn hn2 (by omega) (by omega)) ?_
 rintro _ w2 ⟨rfl, x2⟩
 have hM := hM.ext x2
 try dsimp only [Za, Zb, Zc, Zd, repl] at hM
 refine E.asg rfl rfl <| E.nil <| X.next <| C.seq <| C.region <| ?_
 refine E.loadA (cs := [i64 W, i64 H, vd]) rfl Try.underlying37 rfl (by kernel_rfl) (hM.bat 0 rfl) rfl ?_
 refine E.fld (o := 0) (sz := 0) rfl Try.underlying59 rfl rfl (by kernel_rfl) rfl ?_
 refine E.load rfl Try.underlying3 rfl (hM.bcell 1 rfl rfl) rfl ?_
 refine E.fld (o := 2) (sz := 0) rfl Try.underlying59 rfl rfl (by kernel_rfl) rfl ?_
 refine E.load rfl Try.underlying3 rfl (hM.bcell 1 rfl rfl) rfl ?_
 refine E.addN (a := x) (b := bw) rfl rfl (by omega) rfl ?_
 refine E.subN (a := x + bw) (b := 1) rfl rfl (by omega) rfl ?_
 refine E.fld (o := 1) (sz := 0) rfl Try.underlying59 rfl rfl (by kernel_rfl) rfl ?_
 refine E.load rfl Try.underlying3 rfl (hM.bcell 1 rfl rfl) rfl ?_
 refine E.fld (o := 3) (sz := 0) rfl Try.underlying59 rfl rfl (by kernel_rfl) rfl ?_
 refine E.load rfl Try.underlying3 rfl (hM.bcell 1 rfl rfl) rfl ?_
 refine E.call rfl rfl (filled_ret vd dk W H (x + bw - 1) y 1 h _ (hM.arg0 hr) hW hH hn hn2 (by omega) (by omega)) ?_
 rintro _ w3 ⟨rfl, x3⟩
 have hM := hM.ext x3
 try dsimp only [Za, Zb, Zc, Zd, repl] at hM
 refine E.asg rfl rfl <| E.nil <| X.next <| C.seq <| C.region <| ?_
 refine E.loadA (cs := [i64 W, i64 H, vd]) rfl Try.underlying37 rfl (by kernel_rfl) (hM.bat 0 rfl) rfl ?_
 refine E.fld (o := 0) (sz := 0) rfl Try.underlying59 rfl rfl (by kernel_rfl) rfl ?_
 refine E.load rfl Try.underlying3 rfl (hM.bcell 1 rfl rfl) rfl ?_
 refine E.fld (o := 1) (sz := 0) rfl Try.underlying59 rfl rfl (by kernel_rfl) rfl ?_
 refine E.load rfl Try.underlying3 rfl (hM.bcell 1 rfl rfl) rfl ?_
 refine E.fld (o := 2) (sz := 0) rfl Try.underlying59 rfl rfl (by kernel_rfl) rfl ?_
 refine E.load rfl Try.underlying3 rfl (hM.bcell 1 rfl rfl) rfl ?_
 refine E.call rfl rfl (filled_ret vd dk W H x y bw 1 _ (hM.arg0 hr) hW hH hn hn2 (by omega) (by omega)) ?_
 rintro _ w4 ⟨rfl, x4⟩
 have hM := hM.ext x4
 try dsimp only [Za, Zb, Zc, Zd, repl] at hM
 refine E.asg rfl rfl <| E.nil <| X.next <| C.seq <| C.region <| ?_
 refine E.loadA (cs := [i64 W, i64 H, vd]) rfl Try.underlying37 rfl (by kernel_rfl) (hM.bat 0 rfl) rfl ?_
 refine E.fld (o := 0) (sz := 0) rfl Try.underlying59 rfl rfl (by kernel_rfl) rfl ?_
 refine E.load rfl Try.underlying3 rfl (hM.bcell 1 rfl rfl) rfl ?_
 refine E.fld (o := 1) (sz := 0) rfl Try.underlying59 rfl rfl (by kernel_rfl) rfl ?_
 refine E.load rfl Try.underlying3 rfl (hM.bcell 1 rfl rfl) rfl ?_
 refine E.fld (o := 3) (sz := 0) rfl Try.underlying59 rfl rfl (by kernel_rfl) rfl ?_
 refine E.load rfl Try.underlying3 rfl (hM.bcell 1 rfl rfl) rfl ?_
 refine E.addN (a := y) (b := h) rfl rfl (by omega) rfl ?_
 refine E.subN (a := y + h) (b := 1) rfl rfl (by omega) rfl ?_
 refine E.fld (o := 2) (sz := 0) rfl Try.underlying59 rfl rfl (by kernel_rfl) rfl ?_
 refine E.load rfl Try.underlying3 rfl (hM.bcell 1 rfl rfl) rfl ?_
 refine E.call rfl rfl (filled_ret vd dk W H x (y + h - 1) bw 1 _ (hM.arg0 hr) hW hH hn hn2 (by omega) (by omega)) ?_
 rintro _ w5 ⟨rfl, x5⟩
 have hM := hM.ext x5
 try dsimp only [Za, Zb, Zc, Zd, repl] at hM
 obtain ⟨p1, hp1⟩ : ∃ p, p = decide (fil dk W x y 1 h) := ⟨_, rfl⟩
 obtain ⟨p2, hp2⟩ : ∃ p, p = decide (fil dk W (x + bw - 1) y 1 h) := ⟨_, rfl⟩
 obtain ⟨p3, hp3⟩ : ∃ p, p = decide (fil dk W x y bw 1) := ⟨_, rfl⟩
 obtain ⟨p4, hp4⟩ : ∃ p, p = decide (fil dk W x (y + h - 1) bw 1) := ⟨_, rfl⟩
 have hell : ((p1 || p2) && (p3 || p4)) = decide (ellP dk W x y bw h) := by rw [hp1, hp2, hp3, hp4, Bool.eq_iff_iff, decide_eq_true_iff]; unfold ellP; simp
 rw [← hp1, ← hp2, ← hp3, ← hp4]
 clear hp1 hp2 hp3 hp4
 refine E.asg rfl rfl <| E.nil <| X.next <| ?_

 refine C.chainE [] rfl [(4, .bool (decide (ellP dk W x y bw h)))] ?_ ?_
 ·
  refine C.region <| E.mv rfl rfl <| E.mv rfl rfl <| ?_
  refine E.split 50 rfl (fun g50 => ?_) (fun g50 => ?_)
  ·
   try simp only [Ya, Yb, Yc, Yd, Ye, Yf] at g50
   refine E.off rfl rfl rfl rfl <| E.pick rfl rfl rfl <| E.mv rfl rfl <| ?_
   refine E.on rfl rfl (E.mv rfl rfl ?_)
   refine E.on rfl rfl (E.mv rfl rfl ?_)
   refine E.split 55 rfl (fun g55 => ?_) (fun g55 => ?_)
   ·
    try simp only [Ya, Yb, Yc, Yd, Ye, Yf] at g55
    refine E.off rfl rfl rfl rfl <| ?_
    refine E.on rfl rfl (E.pick rfl rfl rfl ?_)
    refine E.pick rfl rfl rfl <| E.asg rfl rfl <| E.nil <| X.join0 (Sub.cons (look_eq rfl (congrArg Value.bool (by rw [← hell]; clear hell; first | rfl | (simp_all; done) | (cases p1 <;> cases p2 <;> cases p3 <;> cases p4 <;> simp_all)))) <| Sub.nil _) rfl rfl
   ·
    try simp only [Ya, Yb, Yc, Yd, Ye, Yf] at g55
    refine E.on rfl rfl (E.mv rfl rfl ?_)
    refine E.on rfl rfl (E.pick rfl rfl rfl ?_)
    refine E.pick rfl rfl rfl <| E.asg rfl rfl <| E.nil <| X.join0 (Sub.cons (look_eq rfl (congrArg Value.bool (by rw [← hell]; clear hell; first | rfl | (simp_all; done) | (cases p1 <;> cases p2 <;> cases p3 <;> cases p4 <;> simp_all)))) <| Sub.nil _) rfl rfl
  ·
   try simp only [Ya, Yb, Yc, Yd, Ye, Yf] at g50
   refine E.on rfl rfl (E.mv rfl rfl ?_)
   refine E.pick rfl rfl rfl <| E.mv rfl rfl <| ?_
   refine E.split 53 rfl (fun g53 => ?_) (fun g53 => ?_)
   ·
    try simp only [Ya, Yb, Yc, Yd, Ye, Yf] at g53
    refine E.on rfl rfl (E.mv rfl rfl ?_)
    refine E.on rfl rfl (E.mv rfl rfl ?_)
    refine E.split 55 rfl (fun g55 => ?_) (fun g55 => ?_)
    ·
     try simp only [Ya, Yb, Yc, Yd, Ye, Yf] at g55
     refine E.off rfl rfl rfl rfl <| ?_
     refine E.on rfl rfl (E.pick rfl rfl rfl ?_)
     refine E.pick rfl rfl rfl <| E.asg rfl rfl <| E.nil <| X.join0 (Sub.cons (look_eq rfl (congrArg Value.bool (by rw [← hell]; clear hell; first | rfl | (simp_all; done) | (cases p1 <;> cases p2 <;> cases p3 <;> cases p4 <;> simp_all)))) <| Sub.nil _) rfl rfl
    ·
     try simp only [Ya, Yb, Yc, Yd, Ye, Yf] at g55
     refine E.on rfl rfl (E.mv rfl rfl ?_)
     refine E.on rfl rfl (E.pick rfl rfl rfl ?_)
     refine E.pick rfl rfl rfl <| E.asg rfl rfl <| E.nil <| X.join0 (Sub.cons (look_eq rfl (congrArg Value.bool (by rw [← hell]; clear hell; first | rfl | (simp_all; done) | (cases p1 <;> cases p2 <;> cases p3 <;> cases p4 <;> simp_all)))) <| Sub.nil _) rfl rfl
   ·
    try simp only [Ya, Yb, Yc, Yd, Ye, Yf] at g53
    refine E.off rfl rfl rfl rfl <| E.off rfl rfl rfl rfl <| E.offu rfl rfl rfl <| E.off rfl rfl rfl rfl <| E.pick rfl rfl rfl <| E.asg rfl rfl <| E.nil <| X.join0 (Sub.cons (look_eq rfl (congrArg Value.bool (by rw [← hell]; clear hell; first | rfl | (simp_all; done) | (cases p1 <;> cases p2 <;> cases p3 <;> cases p4 <;> simp_all)))) <| Sub.nil _) rfl rfl
 refine C.ret <| ret1 rfl rfl ?_
 exact ⟨rfl, hM.toExt⟩
set_option maxHeartbeats 2000000 in
theorem Ells_ret (W0 H0 : Int) (vd : Value) (dk : List Bool) (w : World) (hr : RdL Value.bool w vd dk) :
  Ret Try.prog 14 #[mat W0 H0 vd] w fun v w' => EllV W0 H0 dk w w' v := by
 have hM := M.start w
 refine enter Try.func14 rfl (by kernel_rfl) Try.ntmps14 rfl ?_
 refine C.seq <| C.region <| ?_
 refine E.boxM (cs := [i64 W0, i64 H0, vd]) hM rfl (by obtain ⟨a, cap, rfl, _⟩ := hr; rfl) rfl ?_
 intro b1 w0 hM
 try dsimp only [Za, Zb, Zc, Zd, repl] at hM
 refine E.asg rfl rfl <| E.asg rfl rfl <| E.nil <| X.next <| C.seq <| C.region <| ?_
 refine E.loadA (cs := [i64 W0, i64 H0, vd]) rfl Try.underlying37 rfl (by kernel_rfl) (hM.bat 0 rfl) rfl ?_
 refine E.call rfl rfl (Label_ret W0 H0 vd dk true _ (hM.arg0 hr)) ?_
 rintro v12 w1 ⟨hA, xA⟩
 obtain ⟨va, vb, lab, bl, e, rfl, m, hA⟩ := hA.uni xA
 have hM := hM.call m
 try dsimp only [Za, Zb, Zc, Zd, repl] at hM
 refine E.mv rfl rfl <| E.ext rfl rfl rfl <| E.ext rfl rfl rfl <| E.ext rfl rfl rfl <| E.asg rfl rfl <| E.asg rfl rfl <| E.asg rfl rfl <| E.nil <| X.next <| C.seq <| C.seq <| C.region <| E.mv rfl rfl <| E.bin rfl rfl rfl rfl <| E.nil <| X.next <| ?_
 refine C.cond' rfl (fun hC0 => ?_) (fun hC0 => ?_)
 ·
  refine C.seq <| C.region <| E.mv rfl rfl <| E.asg rfl rfl <| E.asg rfl rfl <| E.nil <| X.next <| C.ret <| X.retT <| ret2 rfl rfl rfl ?_
  exact (by
    rcases hA with ⟨h1, rfl, _⟩ | ⟨h1, h2, rfl, _⟩ | ⟨h1, h2, rfl, _⟩
    · exact .inl ⟨h1, rfl, hM.toExt⟩
    · exact .inr (.inl ⟨h1, h2, rfl, hM.toExt⟩)
    · exact (hC0 rfl).elim)
 ·
  obtain ⟨hok, hnf, rfl, hL⟩ : okMat W0 H0 dk.length ∧ nf (DD dk true) (RR W0.toNat true dk true) dk.length ≤ 65536 ∧ e = 0 ∧ Labelled (DD dk true) (RR W0.toNat true dk true) W0.toNat dk.length lab bl := by
   rcases hA with ⟨h1, rfl, _⟩ | ⟨h1, h2, rfl, _⟩ | ⟨h1, h2, rfl, h3⟩
   · exact (hC0 (by decide)).elim
   · exact (hC0 (by decide)).elim
   · exact ⟨h1, h2, rfl, h3⟩
  obtain ⟨W, H, rfl, rfl, ha1, ha2, hb1, hb2, hn, hn2⟩ := okMat_nat hok
  rw [Int.toNat_natCast] at hL hnf
  have hbl : bl.length ≤ 65536 := by rw [hL.num]; exact hnf
  have hM := (hM.nilF bxc 4 59).pick [0, 2, 3] (by decide)
  refine C.skip <| X.next <| C.seq <| C.region <| E.asg rfl rfl <| E.nil <| X.next <| C.seq <| C.seq <| C.region <| E.mv rfl rfl <| ?_
  refine E.lenv rfl (RdF.shape (hM.slF 1 rfl)) Try.underlying69 rfl ?_
  refine E.mv rfl rfl <| E.nil <| X.next <| C.block <| ?_

  refine C.loop2 [(1, _), (19, _), (20, _)] rfl (fun (k : Nat) (vl : Value) => [(7, vl), (21, i64 k)]) (fun (k : Nat) (vl : Value) w' => M w (Nn) w' [Rg.blk b1 37 [i64 W, i64 H, vd], Rg.slF Bl.cells 7 73 vb bl, Rg.slF bxc 4 59 vl (els dk W (bl.take k))] ∧ k ≤ bl.length ∧ (els dk W (bl.take k)).length ≤ 4096) (fun (k : Nat) (vl : Value) => bl.length - k) 0 nls ?_ ?_ ?_
  · exact Sub.cons rfl <| Sub.cons rfl <| Sub.nil _
  · exact ⟨hM, Nat.zero_le _, Nat.zero_le _⟩
  rintro k vl w2 ⟨hM, hk, hel⟩
  refine C.seq <| C.region <| E.bin rfl rfl rfl rfl <| E.nil <| X.next <| C.seq <| ?_
  refine C.cond' rfl (fun hC1 => ?_) (fun hC1 => ?_)
  ·
   have hk' : k < bl.length := by omega
   obtain ⟨x, y, bw, h, e1, e2, e3, e4, hw1, hh1, hxW, hyH⟩ := blob_in (by omega) (hn ▸ hL) hk'
   refine C.skip <| X.next <| ?_

   refine C.cut1 [(1, _), (19, _), (20, _), (21, _)] rfl (fun (vl : Value) => [(7, vl)]) (fun (vl : Value) w' => M w (Nn) w' [Rg.blk b1 37 [i64 W, i64 H, vd], Rg.slF Bl.cells 7 73 vb bl, Rg.slF bxc 4 59 vl (els dk W (bl.take (k + 1)))] ∧ (els dk W (bl.take (k + 1))).length ≤ 4096) ?_ ?_
   ·
    refine C.block <| C.seq <| C.region <| ?_
    refine E.idxF (k := k) rfl rfl (hM.slF 1 rfl) rfl hk' (by decide) Try.underlying69 (by kernel_rfl) rfl ?_
    refine E.loadA (cs := Bl.cells bl[k]) rfl Try.underlying73 rfl (by kernel_rfl) ((hM.slF 1 rfl).all hk') rfl ?_
    refine E.allocM (z := .agg #[.int .i64 0, .int .i64 0, .int .i64 0, .int .i64 0, .int .i64 0, .int .i64 0, .int .i64 0]) (cs := [.int .i64 0, .int .i64 0, .int .i64 0, .int .i64 0, .int .i64 0, .int .i64 0, .int .i64 0]) hM (by kernel_rfl) rfl rfl ?_
    intro b9 w3 hM
    try dsimp only [Za, Zb, Zc, Zd, repl] at hM
    refine E.storeAM 3 (cs := Bl.cells bl[k]) hM rfl rfl rfl (by kernel_rfl) rfl (ones rfl <| ones rfl <| ones rfl <| ones rfl <| ones rfl <| ones rfl <| ones rfl <| ones_nil) ?_
    intro w4 hM
    try dsimp only [Za, Zb, Zc, Zd, repl] at hM
    refine E.nil <| X.next <| C.seq <| ?_

    refine C.cut0 [(1, _), (7, _), (9, _), (19, _), (20, _), (21, _)] rfl [(41, .bool (decide (elb dk W bl[k] = none)))] (fun w' => M w (Nn) w' [Rg.blk b1 37 [i64 W, i64 H, vd], Rg.slF Bl.cells 7 73 vb bl, Rg.slF bxc 4 59 vl (els dk W (bl.take k)), Rg.blk b9 73 (Bl.cells bl[k])]) ?_ ?_
    ·
     have hel8 : elb dk W bl[k] = none ↔ ¬ (8 ≤ (bw : Int) ∧ 8 ≤ (h : Int) ∧ ellP dk W x y bw h) := by
      unfold elb; rw [e1, e2, e3, e4]; simp only [Int.toNat_natCast]
      by_cases hc : 8 ≤ (bw : Int) ∧ 8 ≤ (h : Int) ∧ ellP dk W x y bw h
      · rw [if_pos hc]; exact ⟨fun z => (by cases z), fun z => (z hc).elim⟩
      · rw [if_neg hc]; exact ⟨fun _ => hc, fun _ => rfl⟩
     refine C.region <| ?_
     refine E.fld (o := 0) (sz := 3) rfl Try.underlying73 rfl rfl (by kernel_rfl) rfl ?_
     refine E.fld (o := 2) (sz := 0) rfl Try.underlying59 rfl rfl (by kernel_rfl) rfl ?_
     refine E.load rfl Try.underlying3 rfl (hM.bcell 3 rfl rfl) rfl ?_
     refine E.bin rfl rfl rfl rfl <| E.mv rfl rfl <| ?_
     refine E.split 29 rfl (fun g29 => ?_) (fun g29 => ?_)
     ·
      try simp only [Ya, Yb, Yc, Yd, Ye, Yf] at g29

      refine E.off rfl rfl rfl rfl <| E.off rfl rfl rfl rfl <| E.off rfl rfl rfl rfl <| E.off rfl rfl rfl rfl <| E.pick rfl rfl rfl <| E.mv rfl rfl <| E.off rfl rfl rfl rfl <| E.off rfl rfl rfl rfl <| E.off rfl rfl rfl rfl <| E.off rfl rfl rfl rfl <| E.off rfl rfl rfl rfl <| E.pick rfl rfl rfl <| E.nil <| X.join0  (Sub.cons (look_eq rfl (congrArg Value.bool (decide_eq_true (hel8.2 (fun h => by rw [e3] at g29; omega))).symm)) <| Sub.nil _) rfl hM
     ·
      try simp only [Ya, Yb, Yc, Yd, Ye, Yf] at g29
      refine E.on rfl rfl (E.fld (o := 0) (sz := 3) rfl Try.underlying73 rfl rfl (by kernel_rfl) rfl ?_)
      refine E.on rfl rfl (E.fld (o := 3) (sz := 0) rfl Try.underlying59 rfl rfl (by kernel_rfl) rfl ?_)
      refine E.on rfl rfl (E.load rfl Try.underlying3 rfl (hM.bcell 3 rfl rfl) rfl ?_)
      refine E.on rfl rfl (E.bin rfl rfl rfl rfl ?_)
      refine E.pick rfl rfl rfl <| E.mv rfl rfl <| ?_
      refine E.split 35 rfl (fun g35 => ?_) (fun g35 => ?_)
      ·
       try simp only [Ya, Yb, Yc, Yd, Ye, Yf] at g35

       refine E.off rfl rfl rfl rfl <| E.off rfl rfl rfl rfl <| E.off rfl rfl rfl rfl <| E.off rfl rfl rfl rfl <| E.off rfl rfl rfl rfl <| E.pick rfl rfl rfl <| E.nil <| X.join0  (Sub.cons (look_eq rfl (congrArg Value.bool (decide_eq_true (hel8.2 (fun h => by rw [e4] at g35; omega))).symm)) <| Sub.nil _) rfl hM
      ·
       try simp only [Ya, Yb, Yc, Yd, Ye, Yf] at g35
       refine E.on rfl rfl (E.loadA (cs := [i64 W, i64 H, vd]) rfl Try.underlying37 rfl (by kernel_rfl) (hM.bat 0 rfl) rfl ?_)
       refine E.on rfl rfl (E.fld (o := 0) (sz := 3) rfl Try.underlying73 rfl rfl (by kernel_rfl) rfl ?_)
       refine E.on rfl rfl (E.loadA (cs := [i64 bl[k].x, i64 bl[k].y, i64 bl[k].w, i64 bl[k].h]) rfl Try.underlying59 rfl (by kernel_rfl) (hM.bsub (n := 4) 3 rfl) rfl ?_)
       rw [e1, e2, e3, e4]
       refine E.on rfl rfl (E.call rfl rfl (ell_ret vd dk W H x y bw h _ (hM.arg0 hr) ⟨ha1, ha2⟩ ⟨hb1, hb2⟩ hn hn2 hw1 hh1 hxW hyH) ?_)
       rintro _ w5 ⟨rfl, x5⟩
       have hM := hM.ext x5
       try dsimp only [Za, Zb, Zc, Zd, repl] at hM
       refine E.on rfl rfl (E.not rfl rfl ?_)

       refine E.pick rfl rfl rfl <| E.nil <| X.join0  (Sub.cons (look_eq rfl (congrArg Value.bool (by rw [e3] at g29; rw [e4] at g35; rw [Bool.eq_iff_iff, decide_eq_true_iff, hel8]; refine ⟨fun a hc => (by simp [hc.2.2] at a), fun a => ?_⟩; by_cases hc : ellP dk W x y bw h; exact (a ⟨by omega, by omega, hc⟩).elim; simp [hc]))) <| Sub.nil _) rfl hM
    rintro  w6 hM
    refine C.cond' rfl (fun hC2 => ?_) (fun hC2 => ?_)
    ·

     refine C.exit <| X.exitT <| X.outE <| X.join1 vl (Sub.cons rfl <| Sub.nil _) rfl ⟨by rw [els_n hk' hC2]; exact hM.pick [0, 1, 2] (by decide), by rw [els_n hk' hC2]; exact hel⟩
    ·
     obtain ⟨bx, hbx⟩ : ∃ bx, elb dk W bl[k] = some bx := by
      cases h : elb dk W bl[k] with
      | none => exact (hC2 h).elim
      | some z => exact ⟨z, rfl⟩
     have hbxe : bx = ⟨bl[k].x, bl[k].y, bl[k].w, bl[k].h⟩ := by
      unfold elb at hbx; split at hbx
      · exact (Option.some.inj hbx).symm
      · cases hbx
     have hes := els_s hk' hbx
     refine C.skip <| X.next <| C.seq <| C.seq <| C.region <| E.mv rfl rfl <| ?_
     refine E.lenv rfl (RdF.shape (hM.slF 2 rfl)) Try.underlying39 rfl ?_
     refine E.bin rfl rfl rfl rfl <| E.nil <| X.next <| ?_
     refine C.cond' rfl (fun hC3 => ?_) (fun hC3 => ?_)
     ·
      refine C.seq <| C.region <| E.asg rfl rfl <| E.asg rfl rfl <| E.nil <| X.next <| C.ret <| X.retT <| X.retB <| X.retT <| X.retT <| X.retB <| X.retT <| ret2 rfl rfl rfl ?_
      exact .inr (.inr ⟨hok, by rw [Int.toNat_natCast]; exact hnf, lab, bl, by rw [Int.toNat_natCast]; exact hL, .inl ⟨by rw [Int.toNat_natCast]; have h1 := els_le (dk := dk) (W := W) (bl := bl) (k + 1); rw [hes, List.length_append, List.length_singleton] at h1; omega, rfl, hM.toExt⟩⟩)
     ·
      refine C.skip <| X.next <| C.region <| E.mv rfl rfl <| ?_
      refine E.fld (o := 0) (sz := 3) rfl Try.underlying73 rfl rfl (by kernel_rfl) rfl ?_
      refine E.loadA (cs := [i64 bl[k].x, i64 bl[k].y, i64 bl[k].w, i64 bl[k].h]) rfl Try.underlying59 rfl (by kernel_rfl) (hM.bsub (n := 4) 3 rfl) rfl ?_
      refine E.pushFM 2 bx hM rfl rfl (by rw [hbxe]; rfl) Try.underlying39 elem_Tapi_Box rfl (by decide) (ones rfl <| ones rfl <| ones rfl <| ones rfl <| ones_nil) (by omega) (by omega) (by simp) rfl rfl ?_
      intro v49 u49 w7 hM
      try dsimp only [Za, Zb, Zc, Zd, repl] at hM

      refine E.asg rfl rfl <| E.nil <| X.outN <| X.join1 _ (Sub.cons rfl <| Sub.nil _) rfl ⟨by rw [hes]; exact hM.pick [0, 1, 2] (by decide), by rw [hes, List.length_append, List.length_singleton]; omega⟩
   rintro vl w8 ⟨hM, hel⟩
   refine C.region <| ?_
   refine E.add rfl rfl (by omega) rfl ?_

   refine E.mv rfl rfl <| E.nil <| X.again2 (k + 1) _ (Sub.cons rfl <| Sub.cons rfl <| Sub.nil _) rfl ⟨hM, by omega, hel⟩ (by omega)
  ·
   obtain rfl : k = bl.length := by omega
   rw [List.take_length] at hM hel
   refine C.exit <| X.exitT <| X.exitT <| X.outE <| X.next <| C.seq <| C.region <| E.mv rfl rfl <| E.asg rfl rfl <| E.asg rfl rfl <| E.nil <| X.next <| C.ret <| ret2 rfl rfl rfl ?_
   exact .inr (.inr ⟨hok, by rw [Int.toNat_natCast]; exact hnf, lab, bl, by rw [Int.toNat_natCast]; exact hL, .inr ⟨by rw [Int.toNat_natCast]; exact hel, _, rfl, by rw [Int.toNat_natCast]; exact hM.pick [2] (by decide)⟩⟩)
end Go.Proofs.Ytbinlkobmlebpaa
