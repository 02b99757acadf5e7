/- Texts of the claim, laid together: Label, AnsM. -/
import Derived.Test.YtnnmebpahickhaaComponentsSymmetricTopMg13
import Derived.Test.YtnnmebpahickhaaComponentsSymmetricTopMg15
/- components: Label. -/
namespace Go.Proofs.Ytnnmebpahickhaa
set_option linter.unusedSimpArgs false
set_option linter.unusedVariables false
open Go.RowKit Sym Uf

theorem small_nat {a : Nat} (h : a ≤ 5000000) : (a : Int) ≤ 5000000 := by omega
set_option maxHeartbeats 2000000 in
theorem Label_ret (W Ht : Int) (vd : Value) (dk : List Bool) (eight : Bool) (w : World) (hrd : RdL Value.bool w vd dk) :
    Ret Try.prog 14 #[mat W Ht vd, .bool eight] w fun v w' => LabelAns W Ht dk eight v w w' ∧ Ext w w' := by
  refine enter Try.func14 rfl (by kernel_rfl) Try.ntmps14 rfl ?_
  refine C.seq <| C.region <| ?_
  refine E.boxB (cs := [i64 W, i64 Ht, vd]) rfl rfl rfl ?_
  intro w1 b1 x1 z1
  refine E.asg rfl rfl <| E.asg rfl rfl <| E.asg rfl rfl <| E.nil <| X.next <| C.seq <| C.seq <| C.region <| ?_
  refine E.loadA rfl Try.underlying24 rfl (by kernel_rfl) (b1.at 0 [i64 W, i64 Ht, vd] (fun j u h => by simpa using h)) rfl ?_
  refine E.call rfl rfl (Check_ret W Ht vd dk.length _ hrd.shape) ?_
  rintro _ w2 ⟨rfl, x2⟩
  refine E.asg rfl rfl <| E.nil <| X.next <| C.seq <| C.region <| E.mv rfl rfl <| E.bin rfl rfl rfl rfl <| E.nil <| X.next <| ?_
  refine C.cond' rfl (fun hc => ?_) (fun hc => ?_)
  ·
    refine C.seq <| C.region <| E.mv rfl rfl <| E.asg rfl rfl <| E.asg rfl rfl <| E.asg rfl rfl <| E.nil <| X.next <| C.ret <| X.retT <| ret3 rfl rfl rfl rfl ?_
    have hno : ¬ okMat W Ht dk.length := fun h => by rw [if_pos h] at hc; exact hc rfl
    exact ⟨.inl ⟨hno, by rw [if_neg hno]⟩, x1.trans x2⟩
  ·
    have hok : okMat W Ht dk.length := Decidable.byContradiction fun h => by rw [if_neg h] at hc; exact hc (by decide)
    obtain ⟨⟨o1, o2, o3, o4, o5⟩, o6⟩ := hok
    have hok : okMat W Ht dk.length := ⟨⟨o1, o2, o3, o4, o5⟩, o6⟩
    obtain ⟨W', hW'⟩ : ∃ W' : Nat, W = (W' : Int) := ⟨W.toNat, by omega⟩
    obtain ⟨H', hH'⟩ : ∃ H' : Nat, Ht = (H' : Int) := ⟨Ht.toNat, by omega⟩
    subst hW' hH'
    obtain ⟨n, hn⟩ : ∃ n, dk.length = n := ⟨_, rfl⟩
    rw [hn] at o6
    have hn0 : n ≤ 4194304 := by omega
    have y2 := x1.trans x2
    refine C.skip <| X.next <| C.seq <| C.region <| ?_
    refine E.fld (o := 2) (sz := 0) rfl Try.underlying24 rfl rfl (by kernel_rfl) rfl ?_
    refine E.load rfl Try.underlying22 rfl ((b1.ext x2).cell 2) rfl ?_
    refine E.len rfl (hrd.ext y2) Try.underlying22 rfl ?_
    rw [hn]
    refine E.make (enc := i64) (by_ := 8) (0 : Int) rfl Try.underlying27 (by kernel_rfl) rfl (by omega) (by omega) w.heap.size y2.size rfl ?_
    intro va w3 oa3 x3 na3 z3
    have y3 := y2.trans x3
    refine E.asg rfl rfl <| E.nil <| X.next <| C.seq <| C.region <| ?_
    refine E.mkmap .i32 i64 rfl ?_
    intro w4 mp4 x4 z4
    have y4 := y3.trans x4
    have b4 := b1.ext (x2.trans (x3.trans x4))
    refine E.asg rfl rfl <| E.nil <| X.next <| C.seq <| C.region <| E.asg rfl rfl <| E.nil <| X.next <| C.seq <| C.seq <| C.region <| ?_
    refine E.loadA rfl Try.underlying24 rfl (by kernel_rfl) (b4.at 0 [i64 W', i64 H', vd] (fun j u h => by simpa using h)) rfl ?_
    refine E.mv rfl rfl <| ?_
    refine E.call rfl rfl (sets_ret W' H' vd dk true eight _ (hrd.ext y4) (by omega) (by omega) (by omega)) ?_
    rintro vs w5 ⟨s, os5, hP, x5⟩
    have y5 := y4.trans x5
    have hsl : s.length = n := by rw [hP.len]; exact hn
    obtain ⟨bm, hbm⟩ : ∃ bm, bm = w.heap.size := ⟨_, rfl⟩
    obtain ⟨r, hr⟩ : ∃ r, r = w3.heap.size := ⟨_, rfl⟩
    have q1 := y2.size
    have q2 := x2.size
    rw [← hr] at mp4
    have hlw : LW w5 w.heap.size bm r va vs vd (W' : Int) (H' : Int) s (List.replicate n 0) [] nilS [] := by
      refine { hm := hbm ▸ b4.ext x5, ol := oa3.kept (x4.trans x5), mp := mp4.ext x5, ob := OwnF.nil _ _ _ _ _, os := Own.lower os5 y4.size, rB := by omega, a1 := ?_, a2 := ?_, b1 := nofun, b2 := nofun, s1 := ?_, mr := by omega, ab := (Apart.nil _).symm, avs := ?_, bvs := Apart.nil _ }
      · rw [na3]; intro e; have := Option.some.inj e; omega
      · rw [na3]; intro e; have := Option.some.inj e; omega
      · intro e; have := (World.ownsRow.lt os5 _ e).1; omega
      · intro g h1 h2; rw [na3] at h1; have := Option.some.inj h1; have := (World.ownsRow.lt os5 _ h2).1; omega
    have hI0 : LInv (DD dk true) (RR W' eight dk true) W' n s 0 (List.replicate n 0) [] [] := ⟨by simp, fun i hi => by omega, fun i hi => by omega, fun f hf => by omega, fun z v hz => by simp [aget] at hz, rfl, by simp [nf], fun f hf => by omega⟩
    have hrr : ∀ i, RR W' eight dk true i i := fun i => Cl.refl i
    have hrs : ∀ i j, RR W' eight dk true i j → RR W' eight dk true j i := fun i j h => h.symm
    have hrt : ∀ i j k, RR W' eight dk true i j → RR W' eight dk true j k → RR W' eight dk true i k := fun i j k h h' => h.trans h'
    have hRs : ∀ i j z, DD dk true i → DD dk true j → s[i]? = some z → s[j]? = some z → RR W' eight dk true i j := fun i j z h1 h2 h3 h4 => (hP.same i j z h1 h2 h3).1 h4
    have hRt : ∀ i j z, DD dk true i → DD dk true j → s[i]? = some z → RR W' eight dk true i j → s[j]? = some z := fun i j z h1 h2 h3 h4 => (hP.same i j z h1 h2 h3).2 h4
    have hDn : ∀ i, DD dk true i → i < n := fun i hi => by have := (List.getElem?_eq_some_iff.1 hi).1; omega
    rw [← hbm, ← hr]
    clear mp4 oa3 os5 b1 b4 na3
    refine E.len rfl hlw.os.rd Try.underlying57 rfl ?_
    rw [hsl]
    refine E.mv rfl rfl <| E.nil <| X.next <| C.block <| ?_

    refine C.loop (G := LG) (fun g => [(2, pv bm), (8, va), (9, .map (some r)), (10, g.vb), (28, vs), (29, i64 n), (30, i64 (g.k : Nat))]) (fun g w' => g.k ≤ n ∧ LW w' w.heap.size bm r va vs vd (W' : Int) (H' : Int) s g.lab g.m g.vb g.bl ∧ LInv (DD dk true) (RR W' eight dk true) W' n s g.k g.lab g.m g.bl ∧ Ext w w') (fun g => n - g.k) ⟨0, List.replicate n 0, [], nilS, []⟩ ?_ ?_ ?_
    · exact Sub.cons rfl <| Sub.cons rfl <| Sub.cons rfl <| Sub.cons rfl <| Sub.cons rfl <| Sub.cons rfl <| Sub.cons rfl <| Sub.nil _
    · exact ⟨Nat.zero_le _, hlw, hI0, y5⟩
    · clear hlw hI0
      rintro ⟨k, lab, m, vb, bl⟩ wk ⟨hk, hL, hI, hx⟩
      simp only at hk hL hI
      refine C.seq <| C.region <| E.bin rfl rfl rfl rfl <| E.nil <| X.next <| C.seq <| ?_
      refine C.cond' rfl (fun hc => ?_) (fun hc => ?_)
      ·
        have hk' : k < n := by have hc' : (k : Int) < (n : Int) := hc; omega
        have hks : k < s.length := by omega
        have hkl : k < lab.length := by have := hI.len; omega
        refine C.skip <| X.next <| ?_

        refine C.cut (G := LG) (fun g => [(2, pv bm), (8, va), (9, .map (some r)), (10, g.vb), (28, vs), (29, i64 n), (30, i64 (k : Nat))]) (fun g w' => LW w' w.heap.size bm r va vs vd (W' : Int) (H' : Int) s g.lab g.m g.vb g.bl ∧ LInv (DD dk true) (RR W' eight dk true) W' n s (k + 1) g.lab g.m g.bl ∧ Ext w w') ?_ ?_
        ·
          refine C.block <| C.seq <| C.region <| E.mv rfl rfl <| ?_
          refine E.get (k := k) rfl rfl hL.os.rd rfl hks Try.underlying57 (by kernel_rfl) Try.underlying21 rfl rfl rfl ?_
          refine E.asg rfl rfl <| E.asg rfl rfl <| E.nil <| X.next <| C.seq <| C.seq <| C.region <| E.mv rfl rfl <| E.bin rfl rfl rfl rfl <| E.nil <| X.next <| ?_
          refine C.cond' rfl (fun hc => ?_) (fun hc => ?_)
          ·
            refine C.seq <| C.region <| E.mv rfl rfl <| E.mv rfl rfl <| ?_
            refine E.idx (sz := 1) rfl rfl hL.ol.rd Try.underlying27 (by kernel_rfl) (by show (0 : Int) ≤ (k : Int); omega) (by show (k : Int) < (lab.length : Int); omega) (by decide) rfl ?_
            rw [show (k : Int).toNat * 1 = k from by omega]
            refine E.store rfl rfl (by kernel_rfl) rfl (hL.ol.cellAt hkl).1 (hL.ol.cellAt hkl).2.1 ?_
            obtain ⟨hL1, f1⟩ := hL.setL hkl (-1)
            have hnd : ¬ DD dk true k := hP.off' (by rw [List.getElem?_eq_getElem hks]; exact congrArg some hc)
            refine E.nil <| X.next <| C.exit <| X.exitT <| X.outE <| X.join ⟨k, lab.set k (-1), m, vb, bl⟩ (Sub.cons rfl <| Sub.cons rfl <| Sub.cons rfl <| Sub.cons rfl <| Sub.cons rfl <| Sub.cons rfl <| Sub.cons rfl <| Sub.nil _) ⟨hL1, hI.light hk' hnd, f1 _ hx (Nat.le_refl _)⟩
          ·
            have hsz : s[k]? = some s[k] := List.getElem?_eq_getElem hks
            have hDk : DD dk true k := hP.on' (by omega) (by rw [hsz]; intro e; exact hc (Option.some.inj e))
            refine C.skip <| X.next <| C.seq <| C.region <| E.mv rfl rfl <| E.mv rfl rfl <| ?_
            refine E.lookup (z := i64 0) rfl rfl Try.underlying56 Try.underlying21 (by kernel_rfl) hL.mp rfl ?_

            refine E.mv rfl rfl <| E.ext rfl rfl rfl <| E.ext rfl rfl rfl <| ?_
            obtain ⟨qv, hqv⟩ : ∃ qv, ((aget m s[k]).map i64).getD (i64 0) = qv := ⟨_, rfl⟩
            obtain ⟨okb, hokb⟩ : ∃ okb, (aget m s[k]).isSome = okb := ⟨_, rfl⟩
            rw [hqv, hokb]
            refine E.asg rfl rfl <| E.asg rfl rfl <| E.nil <| X.next <| C.seq <| C.held (fun w' => LW w' w.heap.size bm r va vs vd (W' : Int) (H' : Int) s lab m vb bl) (by kernel_rfl) fun wh hwh hhh => ?_
            have hS := hL.ext hwh
            have hxh := hx.trans hwh
            refine H.take 0 rfl rfl (by kernel_rfl) (by kernel_rfl) (by kernel_rfl) hS (fun w' hS => Y.mv rfl) rfl ?_
            refine H.take 1 rfl rfl (by kernel_rfl) (by kernel_rfl) (by kernel_rfl) hS (fun w' hS => Y.fld (o := 0) (sz := 0) rfl Try.underlying24 rfl rfl (by kernel_rfl)) rfl ?_
            refine H.take 4 rfl rfl (by kernel_rfl) (by kernel_rfl) (by kernel_rfl) hS (fun w' hS => Y.mv rfl) rfl ?_
            refine H.take 5 rfl rfl (by kernel_rfl) (by kernel_rfl) (by kernel_rfl) hS (fun w' hS => Y.fld (o := 0) (sz := 0) rfl Try.underlying24 rfl rfl (by kernel_rfl)) rfl ?_
            refine H.take 2 rfl rfl (by kernel_rfl) (by kernel_rfl) (by kernel_rfl) hS (fun w' hS => Y.load rfl Try.underlying3 rfl (hS.hm.cell 0)) rfl ?_
            refine H.take 3 rfl rfl (by kernel_rfl) (by kernel_rfl) (by kernel_rfl) hS (fun w' hS => Y.rem rfl rfl (by omega) (IntWalk.rem_in _ _ (by omega))) rfl ?_
            refine H.take 6 rfl rfl (by kernel_rfl) (by kernel_rfl) (by kernel_rfl) hS (fun w' hS => Y.load rfl Try.underlying3 rfl (hS.hm.cell 0)) rfl ?_
            refine H.take 7 rfl rfl (by kernel_rfl) (by kernel_rfl) (by kernel_rfl) hS (fun w' hS => Y.quo rfl rfl (by omega) (IntWalk.i64_quo _ _ (by omega))) rfl ?_
            rw [show (k : Int) % (W' : Int) = ((k % W' : Nat) : Int) from rfl, show (k : Int) / (W' : Int) = ((k / W' : Nat) : Int) from rfl]
            refine H.take 8 rfl rfl (by kernel_rfl) (by kernel_rfl) (by kernel_rfl) hS (fun w' hS => Y.build (cs := [i64 ((k % W' : Nat) : Int), i64 ((k / W' : Nat) : Int)]) rfl (by kernel_rfl)) rfl ?_
            refine H.only 9 rfl (by kernel_rfl) ?_
            refine E.allocB (z := .agg #[i64 0, i64 0]) (cs := [i64 0, i64 0]) (by kernel_rfl) rfl rfl ?_
            intro w6 b6 x6 z6
            have hS := hS.ext x6
            refine H.back hS ?_
            refine H.only 10 rfl (by kernel_rfl) ?_
            refine E.storeBA (cs := [i64 ((k % W' : Nat) : Int), i64 ((k / W' : Nat) : Int)]) rfl rfl (by kernel_rfl) b6 rfl (by intro u hu; simp at hu; rcases hu with rfl | rfl <;> rfl) ?_
            intro w7 b7 g7 z7
            have x7 : Ext wh w7 := x6.ofGrown g7 (Nat.le_refl _)
            have hS : LW w7 w.heap.size bm r va vs vd (W' : Int) (H' : Int) s lab m vb bl := (hL.ext hwh).ext x7
            obtain ⟨bp, hbp⟩ : ∃ bp, bp = wh.heap.size := ⟨_, rfl⟩
            have nbp : vb.ownBlock ≠ some bp := fun e => by have := (World.ownsRow.lt (hL.ext hwh).ob.2 _ e).2; omega
            have nap : va.ownBlock ≠ some bp := fun e => by have := (World.ownsRow.lt (hL.ext hwh).ol _ e).2; omega
            have y7 := hxh.trans x7
            rw [← hbp] at b7 ⊢
            refine H.back hS ?_
            refine H.done (by kernel_rfl) <| X.next <| ?_

            refine C.cut (G := List (Int × Int) × Value × List Bl × Nat) (fun g => [(2, pv bm), (8, va), (9, .map (some r)), (10, g.2.1), (11, i64 (k : Nat)), (13, i64 ((nf (DD dk true) (RR W' eight dk true) g.2.2.2 : Nat) : Int)), (15, pv bp), (28, vs), (29, i64 n), (30, i64 (k : Nat))]) (fun g w' => LW w' w.heap.size bm r va vs vd (W' : Int) (H' : Int) s lab g.1 g.2.1 g.2.2.1 ∧ LMid (DD dk true) (RR W' eight dk true) W' n s k g.1 g.2.2.1 g.2.2.2 ∧ Blk w' bp 36 #[i64 ((k % W' : Nat) : Int), i64 ((k / W' : Nat) : Int)] ∧ g.2.1.ownBlock ≠ some bp ∧ Ext w w') ?_ ?_
            ·
              refine C.seq <| C.region <| E.mv rfl rfl <| E.not rfl rfl <| E.nil <| X.next <| ?_
              refine C.cond rfl (fun hc => ?_) (fun hc => ?_)
              ·
                have hnone : aget m s[k] = none := by
                  cases hq : aget m s[k] with
                  | none => rfl
                  | some q => rw [hq] at hokb; simp at hokb; rw [← hokb] at hc; simp at hc
                have hF := hI.isNew hrr hrt hRt hrs hDk hsz hnone
                refine C.seq <| C.seq <| C.region <| E.mv rfl rfl <| ?_
                refine E.lenv rfl hS.ob.rd.shape Try.underlying28 rfl ?_
                refine E.bin rfl rfl rfl rfl <| E.nil <| X.next <| ?_
                refine C.cond' rfl (fun hc => ?_) (fun hc => ?_)
                ·
                  refine C.seq <| C.region <| E.asg rfl rfl <| E.asg rfl rfl <| E.asg rfl rfl <| E.nil <| X.next <| C.ret <| X.retT <| X.retT <| X.retB <| X.retT <| X.retT <| X.retB <| X.retT <| ret3 rfl rfl rfl rfl ?_
                  have hnk : nf (DD dk true) (RR W' eight dk true) k = 65536 := by have := hI.num; omega
                  refine ⟨.inr (.inl ⟨hok, ?_, rfl⟩), y7⟩
                  have hlt := nf_lt hF hk'
                  rw [show ((W' : Nat) : Int).toNat = W' from rfl, hn]; omega
                ·
                  have hfew : nf (DD dk true) (RR W' eight dk true) k < 65536 := by have := hI.num; have := hI.few; omega
                  refine C.skip <| X.next <| C.seq <| C.region <| E.mv rfl rfl <| ?_
                  refine E.lenv rfl hS.ob.rd.shape Try.underlying28 rfl ?_
                  rw [hI.num]
                  refine E.asg rfl rfl <| E.nil <| X.next <| C.seq <| C.region <| E.mv rfl rfl <| E.mv rfl rfl <| E.mv rfl rfl <| ?_
                  refine E.mput ((nf (DD dk true) (RR W' eight dk true) k : Nat) : Int) rfl rfl rfl Try.underlying56 Try.underlying21 hS.mp ?_
                  intro w8 mp8 g8 z8
                  have hL8 := hS.put g8 mp8
                  have b8 := Blk.apart b7 g8 (fun e => by have := Option.some.inj e; have := (hL.ext hwh).mp.lt; omega)
                  have y8 : Ext w w8 := y7.ofGrown g8 hS.rB
                  refine E.nil <| X.next <| C.region <| E.mv rfl rfl <| ?_
                  refine E.fld (o := 0) (sz := 0) rfl Try.underlying36 rfl rfl (by kernel_rfl) rfl ?_
                  refine E.load rfl Try.underlying3 rfl (b8.cell 0) rfl ?_
                  refine E.fld (o := 1) (sz := 0) rfl Try.underlying36 rfl rfl (by kernel_rfl) rfl ?_
                  refine E.load rfl Try.underlying3 rfl (b8.cell 1) rfl ?_
                  refine E.build (cs := [i64 ((k % W' : Nat) : Int), i64 ((k / W' : Nat) : Int), i64 1, i64 1]) rfl (by kernel_rfl) rfl ?_
                  refine E.loadA rfl Try.underlying36 rfl (by kernel_rfl) (b8.at 0 [i64 ((k % W' : Nat) : Int), i64 ((k / W' : Nat) : Int)] (fun j u h => by simpa using h)) rfl ?_
                  refine E.build (cs := Bl.cells ⟨((k % W' : Nat) : Int), ((k / W' : Nat) : Int), 1, 1, 0, ((k % W' : Nat) : Int), ((k / W' : Nat) : Int)⟩) rfl (by kernel_rfl) rfl ?_
                  refine E.pushF (enc := Bl.cells) ⟨((k % W' : Nat) : Int), ((k / W' : Nat) : Int), 1, 1, 0, ((k % W' : Nat) : Int), ((k / W' : Nat) : Int)⟩ rfl rfl Try.underlying28 elem_Tapi_Blob hL8.ob rfl (by decide) (by intro u hu; simp [Bl.cells] at hu; rcases hu with rfl | rfl | rfl | rfl | rfl | rfl | rfl <;> rfl) (by have := hI.num; omega) (by have := hI.num; omega) y8.size (by simp) rfl rfl ?_
                  intro vb' w9 ob9 g9 l9
                  have hL9 := hL8.blobs g9 ob9 l9
                  have b9 := Blk.apart b8 g9 nbp
                  have y9 : Ext w w9 := y8.own hL8.ob.2 g9 (Nat.le_refl _)
                  have nb9 : vb'.ownBlock ≠ some bp := by
                    rcases l9 with l9 | ⟨y, l9, hge⟩
                    · rw [l9]; exact nbp
                    · rw [l9]; intro e; have := Option.some.inj e; have := b8.lt; omega
                  refine E.asg rfl rfl <| E.nil <| X.join (aput m s[k] ((nf (DD dk true) (RR W' eight dk true) k : Nat) : Int), vb', bl ++ [⟨((k % W' : Nat) : Int), ((k / W' : Nat) : Int), 1, 1, 0, ((k % W' : Nat) : Int), ((k / W' : Nat) : Int)⟩], k) (Sub.cons rfl <| Sub.cons rfl <| Sub.cons rfl <| Sub.cons rfl <| Sub.cons rfl <| Sub.cons rfl <| Sub.cons rfl <| Sub.cons rfl <| Sub.cons rfl <| Sub.cons rfl <| Sub.nil _) ⟨hL9, hI.fresh hrr hRs hF hsz hfew, b9, nb9, y9⟩
              ·
                obtain ⟨q, hq⟩ : ∃ q, aget m s[k] = some q := by
                  cases hq : aget m s[k] with
                  | none => rw [hq] at hokb; simp at hokb; rw [← hokb] at hc; simp at hc
                  | some q => exact ⟨q, rfl⟩
                obtain ⟨f, hM, rfl⟩ := hI.old hRs hDk hsz hq
                rw [hq] at hqv
                have hqv' : qv = i64 ((nf (DD dk true) (RR W' eight dk true) f : Nat) : Int) := hqv.symm
                subst hqv'
                refine C.skip <| X.join (m, vb, bl, f) (Sub.cons rfl <| Sub.cons rfl <| Sub.cons rfl <| Sub.cons rfl <| Sub.cons rfl <| Sub.cons rfl <| Sub.cons rfl <| Sub.cons rfl <| Sub.cons rfl <| Sub.cons rfl <| Sub.nil _) ⟨hS, hM, b7, nbp, y7⟩
            ·
              rintro ⟨m, vb, bl, f⟩ w8 ⟨hL8, hM, b8, nb8, y8⟩
              simp only at hL8 hM nb8
              obtain ⟨b, hb, hbs⟩ := hM.now hrs (by omega) (by omega) (by omega)
              have hq : nf (DD dk true) (RR W' eight dk true) f < bl.length := (List.getElem?_eq_some_iff.1 hb).1
              have hbq : bl[nf (DD dk true) (RR W' eight dk true) f] = b := by have := List.getElem?_eq_getElem hq; rw [hb] at this; exact (Option.some.inj this).symm
              refine C.seq <| C.region <| E.mv rfl rfl <| E.mv rfl rfl <| E.mv rfl rfl <| ?_
              refine E.idx (sz := 1) rfl rfl hL8.ol.rd Try.underlying27 (by kernel_rfl) (by omega) (by omega) (by decide) rfl ?_
              rw [show (k : Int).toNat * 1 = k from by omega]
              refine E.store rfl rfl (by kernel_rfl) rfl (hL8.ol.cellAt hkl).1 (hL8.ol.cellAt hkl).2.1 ?_
              obtain ⟨hL9, f9⟩ := hL8.setL hkl ((nf (DD dk true) (RR W' eight dk true) f : Nat) : Int)
              have b9 : Blk (w8.setCell (el va k) (i64 ((nf (DD dk true) (RR W' eight dk true) f : Nat) : Int))) bp 36 #[i64 ((k % W' : Nat) : Int), i64 ((k / W' : Nat) : Int)] := Blk.apart b8 (by have g := grown_set w8 (el va k) (i64 ((nf (DD dk true) (RR W' eight dk true) f : Nat) : Int)); rw [← (hL8.ol.cellAt hkl).2.2] at g; exact g) nap
              have y9 := f9 _ y8 (Nat.le_refl _)

              refine E.nil <| X.next <| C.drawnT 4 (by kernel_rfl) (by kernel_rfl) fun w10 x10 => ?_
              have hL10 := hL9.ext x10
              refine S.mv rfl rfl ?_
              refine S.mv rfl rfl ?_
              refine S.idx (sz := 7) rfl rfl hL10.ob.rd.rd Try.underlying28 (by kernel_rfl) (Int.natCast_nonneg _) (by show ((nf (DD dk true) (RR W' eight dk true) f : Nat) : Int) < (bl.length : Int); omega) (by decide) rfl ?_
              refine S.loadA rfl Try.underlying36 rfl (by kernel_rfl) ((b9.ext x10).at 0 [i64 ((k % W' : Nat) : Int), i64 ((k / W' : Nat) : Int)] (fun j u h => by simpa using h)) rfl ?_
              rw [show ((nf (DD dk true) (RR W' eight dk true) f : Nat) : Int).toNat * 7 = nf (DD dk true) (RR W' eight dk true) f * 7 from by omega]
              refine S.nil ?_
              refine E.call rfl rfl (grow_ret w.heap.size vb bl (nf (DD dk true) (RR W' eight dk true) f) _ _ _ hL10.ob hq (by rw [hbq]; exact hbs) ⟨Int.natCast_nonneg _, small_nat (Nat.le_trans (Nat.mod_le k W') (by omega))⟩ ⟨Int.natCast_nonneg _, small_nat (Nat.le_trans (Nat.div_le_self k W') (by omega))⟩) ?_
              rintro _ w11 ⟨ob11, g11⟩
              rw [hbq] at ob11
              have hL11 := hL10.grown g11 ob11
              have y11 : Ext w w11 := (y9.trans x10).own hL10.ob.2 g11 (Nat.le_refl _)
              refine E.nil <| X.outN <| X.join ⟨k, lab.set k ((nf (DD dk true) (RR W' eight dk true) f : Nat) : Int), m, vb, bl.set (nf (DD dk true) (RR W' eight dk true) f) (b.add ((k % W' : Nat) : Int) ((k / W' : Nat) : Int))⟩ (Sub.cons rfl <| Sub.cons rfl <| Sub.cons rfl <| Sub.cons rfl <| Sub.cons rfl <| Sub.cons rfl <| Sub.cons rfl <| Sub.nil _) ⟨hL11, hM.next hI.len hI.off hI.on hrr hrs hrt hk' hDk hb, y11⟩
        ·
          rintro g wg ⟨hL1, hI1, hx1⟩
          refine C.region <| ?_
          refine E.add rfl rfl (by omega) rfl ?_
          refine E.mv rfl rfl <| E.nil <| X.again ⟨k + 1, g.lab, g.m, g.vb, g.bl⟩ (Sub.cons rfl <| Sub.cons rfl <| Sub.cons rfl <| Sub.cons rfl <| Sub.cons rfl <| Sub.cons rfl <| Sub.cons rfl <| Sub.nil _) ⟨hk', hL1, hI1, hx1⟩ (by simp only; omega)
      ·
        obtain rfl : k = n := by have hc' : ¬ (k : Int) < (n : Int) := hc; omega
        refine C.exit <| X.exitT <| X.exitT <| X.outE <| X.next <| C.seq <| C.region <| E.mv rfl rfl <| E.mv rfl rfl <| E.asg rfl rfl <| E.asg rfl rfl <| E.asg rfl rfl <| E.nil <| X.next <| C.ret <| ret3 rfl rfl rfl rfl ?_
        refine ⟨.inr (.inr ⟨hok, ?_, va, vb, lab, bl, rfl, M.pair hx (Rg.sl_new hL.ol).1 (Rg.sl_new hL.ol).2 ⟨hL.ob.1, Own.lower hL.ob.2 (Nat.zero_le _)⟩ (fun k hk => (World.ownsRow.lt hL.ob.2 k hk).1) (fun k h1 h2 => hL.ab k h1 h2), ?_⟩), hx⟩
        · rw [show ((W' : Nat) : Int).toNat = W' from rfl, hn]; exact hI.few
        · rw [show ((W' : Nat) : Int).toNat = W' from rfl, hn]
          exact ⟨hI.len, hI.off, hI.on, hI.num, hI.blob⟩
end Go.Proofs.Ytnnmebpahickhaa

/- components: what its functions answer. -/
namespace Go.Proofs.Ytnnmebpahickhaa
set_option linter.unusedSimpArgs false
set_option linter.unusedVariables false
open Go.RowKit Sym Uf

instance : Inhabited Bl := ⟨⟨0, 0, 0, 0, 0, 0, 0⟩⟩
abbrev mat0 : Value := .agg #[i64 0, i64 0, nilS]
theorem elem_Tbool : Elem Try.prog 4 1 1 := elem_of (z := .bool false) (by kernel_rfl) rfl (by decide)
theorem okMat.nat {W Ht : Int} {n : Nat} (h : okMat W Ht n) : ∃ a b : Nat, W = (a : Int) ∧ Ht = (b : Int) ∧ (1 ≤ a ∧ a ≤ 4096) ∧ (1 ≤ b ∧ b ≤ 4096) ∧ n = a * b ∧ n ≤ 4194304 := by
  obtain ⟨⟨h1, h2, h3, h4, h5⟩, h6⟩ := h
  obtain ⟨a, rfl⟩ : ∃ a : Nat, W = (a : Int) := ⟨W.toNat, by omega⟩
  obtain ⟨b, rfl⟩ : ∃ b : Nat, Ht = (b : Int) := ⟨Ht.toNat, by omega⟩
  have h7 : n = a * b := by
    have : (n : Int) = ((a * b : Nat) : Int) := by rw [h6]; simp
    omega
  exact ⟨a, b, rfl, rfl, by omega, by omega, h7, by omega⟩
theorem Labelled.uniq {dk : List Bool} {dark eight : Bool} {W n : Nat} {lab lab' : List Int} {bl bl' : List Bl} (h : Labelled (DD dk dark) (RR W eight dk dark) W n lab bl) (k : Labelled (DD dk dark) (RR W eight dk dark) W n lab' bl') : lab = lab' ∧ bl = bl' := Labelled.eq (R := RR W eight dk dark) (fun _ _ => Cl.symm) (fun _ _ _ => Cl.trans) h k
/-- a number of a component -/
def bk (bl : List Bl) (z : Int) : Bl := bl.getD z.toNat default
def despf (dk : List Bool) (lab : List Int) (bl : List Bl) (area : Int) (i : Nat) : Bool := dk.getD i false && decide (area ≤ (bk bl (lab.getD i 0)).area)
/-- a bitmap and an error, as an answer -/
def MatAns (Sp : Int → Int → List Bool → Int → Prop) (v : Value) (w0 w : World) : Prop := ∃ vo W1 H1 l e, v = .tuple #[mat W1 H1 vo, i64 e] ∧ Sp W1 H1 l e ∧ M w0 Nn w [Rg.sl Value.bool 4 vo l]
/-- Label's answer, in one form -/
theorem LabelAns.uni {W Ht : Int} {dk : List Bool} {eight : Bool} {v : Value} {w0 w : World} (h : LabelAns W Ht dk eight v w0 w) (x : Ext w0 w) : ∃ va vb lab bl e, v = .tuple #[va, vb, i64 e] ∧ M w0 Nn w [Rg.sl i64 3 va lab, Rg.slF Bl.cells 7 38 vb bl] ∧
    ((¬ okMat W Ht dk.length ∧ e = 1 ∧ lab = [] ∧ bl = []) ∨ (okMat W Ht dk.length ∧ 65536 < nf (DD dk true) (RR W.toNat eight dk true) dk.length ∧ e = 4 ∧ lab = [] ∧ bl = []) ∨ (okMat W Ht dk.length ∧ nf (DD dk true) (RR W.toNat eight dk true) dk.length ≤ 65536 ∧ e = 0 ∧ Labelled (DD dk true) (RR W.toNat eight dk true) W.toNat dk.length lab bl)) := by
  rcases h with ⟨h1, rfl⟩ | ⟨h1, h2, rfl⟩ | ⟨h1, h2, va, vb, lab, bl, rfl, m, hL⟩
  · exact ⟨_, _, [], [], _, rfl, ((M.ofExt x).nil i64 3).nilF Bl.cells 7 38, .inl ⟨h1, rfl, rfl, rfl⟩⟩
  · exact ⟨_, _, [], [], _, rfl, ((M.ofExt x).nil i64 3).nilF Bl.cells 7 38, .inr (.inl ⟨h1, h2, rfl, rfl, rfl⟩)⟩
  · exact ⟨_, _, _, _, _, rfl, m, .inr (.inr ⟨h1, h2, rfl, hL⟩)⟩
/-- what Despeckle answers -/
def DespSp (W Ht : Int) (dk : List Bool) (area W1 H1 : Int) (l : List Bool) (e : Int) : Prop :=
  (¬ okMat W Ht dk.length ∧ W1 = 0 ∧ H1 = 0 ∧ l = [] ∧ e = 1) ∨
  (okMat W Ht dk.length ∧ area < 0 ∧ W1 = 0 ∧ H1 = 0 ∧ l = [] ∧ e = 3) ∨
  (okMat W Ht dk.length ∧ 0 ≤ area ∧ 65536 < nf (DD dk true) (RR W.toNat true dk true) dk.length ∧ W1 = 0 ∧ H1 = 0 ∧ l = [] ∧ e = 4) ∨
  (okMat W Ht dk.length ∧ 0 ≤ area ∧ nf (DD dk true) (RR W.toNat true dk true) dk.length ≤ 65536 ∧ W1 = W ∧ H1 = Ht ∧ e = 0 ∧ ∃ lab bl, Labelled (DD dk true) (RR W.toNat true dk true) W.toNat dk.length lab bl ∧ l = tab dk.length (despf dk lab bl area))
theorem DespSp.det {W Ht : Int} {dk : List Bool} {area W1 H1 W2 H2 : Int} {l m : List Bool} {e g : Int} (h : DespSp W Ht dk area W1 H1 l e) (k : DespSp W Ht dk area W2 H2 m g) : W1 = W2 ∧ H1 = H2 ∧ l = m ∧ e = g := by
  rcases h with ⟨h0, rfl, rfl, rfl, rfl⟩ | ⟨h0, h1, rfl, rfl, rfl, rfl⟩ | ⟨h0, h1, h2, rfl, rfl, rfl, rfl⟩ | ⟨h0, h1, h2, rfl, rfl, rfl, lab, bl, hL, rfl⟩ <;> rcases k with ⟨k0, rfl, rfl, rfl, rfl⟩ | ⟨k0, k1, rfl, rfl, rfl, rfl⟩ | ⟨k0, k1, k2, rfl, rfl, rfl, rfl⟩ | ⟨k0, k1, k2, rfl, rfl, rfl, lab', bl', kL, rfl⟩ <;>
    first | exact ⟨rfl, rfl, rfl, rfl⟩ | exact (h0 k0).elim | exact (k0 h0).elim | omega | skip
  obtain ⟨rfl, rfl⟩ := Labelled.uniq hL kL
  exact ⟨rfl, rfl, rfl, rfl⟩
/-- the numbers of the labels -/
theorem Labelled.at {D : Nat → Prop} {R : Nat → Nat → Prop} {W n : Nat} {lab : List Int} {bl : List Bl} (h : Labelled D R W n lab bl) {i : Nat} (hi : i < n) (hD : D i) : ∃ (q : Nat), lab[i]? = some (q : Int) ∧ q < bl.length := by
  obtain ⟨f, f1, f2, f3, f4⟩ := h.on i hi hD
  exact ⟨_, f4, by rw [h.num]; exact nf_lt f2 (by omega)⟩
theorem despf_on {dk : List Bool} {lab : List Int} {bl : List Bl} {area : Int} {i q : Nat} (hd : dk[i]? = some true) (hl : lab[i]? = some (q : Int)) (hq : q < bl.length) : despf dk lab bl area i = decide (area ≤ bl[q].area) := by
  simp [despf, bk, hd, hl, hq]
theorem despf_off {dk : List Bool} {lab : List Int} {bl : List Bl} {area : Int} {i : Nat} (hd : dk[i]? = some false) : despf dk lab bl area i = false := by
  simp [despf, hd]
theorem dk_cases {dk : List Bool} {i : Nat} (h : i < dk.length) : dk[i]? = some true ∨ dk[i]? = some false := by
  rw [List.getElem?_eq_getElem h]; cases dk[i] <;> simp
end Go.Proofs.Ytnnmebpahickhaa
