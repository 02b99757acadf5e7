/- Texts of the claim, laid together: Sets. -/
import Derived.Test.YtnnmebpahickhaaComponentsSymmetricTopMg7
/- components: sets. -/
namespace Go.Proofs.Ytnnmebpahickhaa
set_option linter.unusedSimpArgs false
set_option linter.unusedVariables false
open Go.RowKit Sym Uf

/-- what is known ahead of pixel k -/
structure SInv (w w' : World) (c : SV) (n W : Nat) (eight : Bool) (k : Nat) (par siz : List Int) : Prop where
  sw : SW w' w.heap.size c par siz
  pl : par.length = n
  zl : siz.length = n
  ext : Ext w w'
  says : Says par (Dm c.dk c.dark k) (Ed W eight c.dk c.dark k)
  light : ∀ i : Nat, i < k → c.dk[i]? ≠ some c.dark → par[i]? = some (-1)
/-- what is known while the roots are put in -/
structure RInv (w w' : World) (c : SV) (n W : Nat) (eight : Bool) (k : Nat) (par siz : List Int) : Prop where
  sw : SW w' w.heap.size c par siz
  pl : par.length = n
  ext : Ext w w'
  says : Says par (Dm c.dk c.dark n) (Ed W eight c.dk c.dark n)
  light : ∀ i : Nat, i < n → c.dk[i]? ≠ some c.dark → par[i]? = some (-1)
  done : ∀ i : Nat, i < k → c.dk[i]? = some c.dark → ∃ r : Nat, par[i]? = some (r : Int) ∧ Root par i r
theorem parted {w w' : World} {c : SV} {n W : Nat} {eight : Bool} {par siz : List Int} (h : RInv w w' c n W eight n par siz) (hn : c.dk.length = n) : Parted W eight c.dk c.dark par := by
  have hlt : ∀ i : Nat, ∀ b, c.dk[i]? = some b → i < n := fun i b hb => by have := (List.getElem?_eq_some_iff.1 hb).1; omega
  refine ⟨by rw [h.pl, hn], fun i hi => ?_, fun i hi => ?_, fun i j z hi hj hz => ?_⟩
  · exact h.light i (hlt i _ hi) (by rw [hi]; intro e; have := Option.some.inj e; cases hd : c.dark <;> simp [hd] at this)
  · obtain ⟨r, h1, h2⟩ := h.done i (hlt i _ hi) hi
    obtain ⟨s, h3, h4⟩ := h.says.root i ⟨hlt i _ hi, hi⟩
    have := h4.det h2; subst this
    exact ⟨s, h3.2, h1⟩
  · obtain ⟨r, h1, h2⟩ := h.done i (hlt i _ hi) hi
    obtain ⟨s, h3, h4⟩ := h.done j (hlt j _ hj) hj
    rw [h1] at hz
    have hz' := (Option.some.inj hz).symm
    rw [h3, hn, ← h.says.same i j r s ⟨hlt i _ hi, hi⟩ ⟨hlt j _ hj, hj⟩ h2 h4]
    constructor
    · intro e; have := Option.some.inj e; omega
    · rintro rfl; rw [hz']

set_option maxHeartbeats 2000000 in
theorem sets_ret (W Ht : Nat) (vd : Value) (dk : List Bool) (dark eight : Bool) (w : World) (hrd : RdL Value.bool w vd dk) (hW : 0 < W) (hWn : W ≤ 4194304) (hl : dk.length ≤ 4194304) :
    Ret Try.prog 36 #[.agg #[i64 W, i64 Ht, vd], .bool dark, .bool eight] w fun v w' => ∃ s, OwnL i32 w' w.heap.size 21 v s ∧ Parted W eight dk dark s ∧ Ext w w' := by
  obtain ⟨n, hn⟩ : ∃ n, dk.length = n := ⟨_, rfl⟩
  refine enter Try.func36 rfl (by kernel_rfl) Try.ntmps36 rfl ?_
  refine C.seq <| C.region <| ?_
  refine E.boxB (cs := [i64 W, i64 Ht, vd]) rfl rfl rfl ?_
  intro w1 b1 x1 z1
  refine E.boxB (cs := [.bool dark]) rfl rfl rfl ?_
  intro w2 b2 x2 z2
  have y2 := x1.trans x2
  refine E.asg rfl rfl <| E.nil <| X.next <| C.seq <| C.region <| ?_
  refine E.fld (o := 2) (sz := 0) rfl Try.underlying24 rfl rfl (by kernel_rfl) rfl ?_
  refine E.load rfl Try.underlying22 rfl ((b1.ext x2).cell 2) rfl ?_
  refine E.len rfl (hrd.ext y2) Try.underlying22 rfl ?_
  rw [hn]
  refine E.make (enc := i32) (by_ := 4) (0 : Int) rfl Try.underlying57 (by kernel_rfl) rfl (by omega) (by omega) w.heap.size (by omega) rfl ?_
  intro vp w3 op3 x3 np3 z3
  have y3 := y2.trans x3
  refine E.varB (z := .slice none 0 0) (by kernel_rfl) rfl rfl rfl (by kernel_rfl) (by obtain ⟨_, _, rfl⟩ := op3.rd.shape; rfl) ?_
  intro w4 b4 x4 z4
  have y4 := y3.trans x4
  refine E.nil <| X.next <| C.seq <| C.region <| ?_
  refine E.fld (o := 2) (sz := 0) rfl Try.underlying24 rfl rfl (by kernel_rfl) rfl ?_
  refine E.load rfl Try.underlying22 rfl ((b1.ext (x2.trans (x3.trans x4))).cell 2) rfl ?_
  refine E.len rfl (hrd.ext y4) Try.underlying22 rfl ?_
  rw [hn]
  refine E.make (enc := i32) (by_ := 4) (0 : Int) rfl Try.underlying57 (by kernel_rfl) rfl (by omega) (by omega) w.heap.size (by omega) rfl ?_
  intro vz w5 oz5 x5 nz5 z5
  refine E.varB (z := .slice none 0 0) (by kernel_rfl) rfl rfl rfl (by kernel_rfl) (by obtain ⟨_, _, rfl⟩ := oz5.rd.shape; rfl) ?_
  intro w6 b6 x6 z6
  refine E.nil <| X.next <| C.seq <| C.region <| ?_
  refine E.allocB (z := .nilFunc) (cs := [.nilFunc]) (by kernel_rfl) rfl rfl ?_
  intro w7 b7 x7 z7
  refine E.nil <| X.next <| C.seq <| C.region <| ?_
  refine E.mkfn rfl rfl ?_
  refine E.storeB rfl rfl (by kernel_rfl) rfl b7 ?_
  intro w8 b8 g8 z8
  have x8 : Ext w6 w8 := x7.ofGrown g8 (Nat.le_refl _)
  obtain ⟨c, hc⟩ : ∃ c : SV, c = ⟨w.heap.size, w1.heap.size, w3.heap.size, w6.heap.size, w5.heap.size, vp, vz, vd, (W : Int), (Ht : Int), dark, dk⟩ := ⟨_, rfl⟩
  have hdn : c.dk.length = n := by rw [hc]; exact hn
  have hsw : SW w8 w.heap.size c (List.replicate n 0) (List.replicate n 0) := by
    subst hc
    refine { u := ⟨b4.ext (x5.trans (x6.trans x8)), b8, op3.kept (x4.trans (x5.trans (x6.trans x8))), ?_, ?_⟩, hm := b1.ext (x2.trans (x3.trans (x4.trans (x5.trans (x6.trans x8))))), hd := b2.ext (x3.trans (x4.trans (x5.trans (x6.trans x8)))), hz := b6.ext x8, oz := oz5.kept (x6.trans x8), rd := hrd.ext (y4.trans (x5.trans (x6.trans x8))), rb := ?_, ap := ?_, n1 := ?_, n2 := ?_, n3 := ?_, m1 := ?_, m2 := ?_, m3 := ?_, m4 := ?_, m5 := ?_ }
    case refine_3 =>
      by_cases h0 : dk = []
      · exact .inl h0
      · exact .inr (World.block_lt_of_cell? w _ (hrd.cell (List.length_pos_iff.2 h0)))
    case refine_4 => intro g h1 h2; rw [np3] at h1; rw [nz5] at h2; have := Option.some.inj h1; have := Option.some.inj h2; omega
    all_goals (intro e; simp only [np3, nz5] at e; have := Option.some.inj e; omega)
  have hI0 : SInv w w8 c n W eight 0 (List.replicate n 0) (List.replicate n 0) := ⟨hsw, by simp, by simp, (y4.trans (x5.trans (x6.trans x8))), ⟨fun i hi => by have := hi.1; omega, fun i j hi => by have := hi.1; omega, fun i j r s hi => by have := hi.1; omega⟩, fun i hi => by omega⟩
  have hcm : pv w.heap.size = pv c.bm := by rw [hc]
  have hcd : pv w1.heap.size = pv c.bd := by rw [hc]
  have hcp : pv w3.heap.size = pv c.bp := by rw [hc]
  have hcz : pv w5.heap.size = pv c.bz := by rw [hc]
  have hcf : pv w6.heap.size = pv c.bf := by rw [hc]
  have hcv : vd = c.vd := by rw [hc]
  have hcW : c.W = (W : Int) := by rw [hc]
  have hcdk : c.dk = dk := by rw [hc]
  have hcdark : c.dark = dark := by rw [hc]
  refine E.sub (env' := [(2, .bool eight), (3, pv c.bm), (4, pv c.bd), (7, pv c.bp), (8, pv c.bz), (9, pv c.bf)]) (by
    rw [← hcm, ← hcd, ← hcp, ← hcz, ← hcf]
    exact Sub.cons rfl <| Sub.cons rfl <| Sub.cons rfl <| Sub.cons rfl <| Sub.cons rfl <| Sub.cons rfl <| Sub.nil _) ?_
  clear hsw b1 b2 b4 b6 b7 b8 g8 x1 x2 x3 x4 x5 x6 x7 x8 y2 y3 y4 op3 oz5 np3 nz5 z1 z2 z3 z4 z5 z6 z7 z8 hcm hcd hcp hcz hcf
  rw [hcv] at hrd
  clear hc
  refine E.nil <| X.next <| C.seq <| C.region <| ?_
  refine E.mkfn rfl rfl ?_
  refine E.asg rfl rfl <| E.nil <| X.next <| C.seq <| C.seq <| C.region <| ?_
  refine E.fld (o := 2) (sz := 0) rfl Try.underlying24 rfl rfl (by kernel_rfl) rfl ?_
  refine E.load rfl Try.underlying22 rfl (hI0.sw.hm.cell 2) rfl ?_
  refine E.len rfl hI0.sw.rd Try.underlying22 rfl ?_
  rw [hdn]
  refine E.mv rfl rfl <| E.nil <| X.next <| C.block <| ?_

  refine C.loop (G := Nat × List Int × List Int) (fun g => [(2, .bool eight), (3, pv c.bm), (4, pv c.bd), (7, pv c.bp), (8, pv c.bz), (9, pv c.bf), (10, fnv 47 [pv c.bm, pv c.bd, pv c.bf, pv c.bz, pv c.bp]), (27, c.vd), (28, i64 n), (29, i64 (g.1 : Nat))]) (fun g w' => g.1 ≤ n ∧ SInv w w' c n W eight g.1 g.2.1 g.2.2) (fun g => n - g.1) (0, List.replicate n 0, List.replicate n 0) ?_ ?_ ?_
  · exact Sub.cons rfl <| Sub.cons rfl <| Sub.cons rfl <| Sub.cons rfl <| Sub.cons rfl <| Sub.cons rfl <| Sub.cons rfl <| Sub.cons rfl <| Sub.cons rfl <| Sub.cons rfl <| Sub.nil _
  · exact ⟨Nat.zero_le _, hI0⟩
  · rintro ⟨k, par, siz⟩ wk ⟨hk, hI⟩
    simp only at hk hI
    refine C.seq <| C.region <| E.bin rfl rfl rfl rfl <| E.nil <| X.next <| C.seq <| ?_
    refine C.cond' rfl (fun hc => ?_) (fun hc => ?_)
    ·
      have hk' : k < n := by have hc' : (k : Int) < (n : Int) := hc; omega
      have hkd : k < c.dk.length := by omega
      refine C.skip <| X.next <| ?_

      refine C.cut (G := List Int × List Int) (fun _ => [(2, .bool eight), (3, pv c.bm), (4, pv c.bd), (7, pv c.bp), (8, pv c.bz), (9, pv c.bf), (10, fnv 47 [pv c.bm, pv c.bd, pv c.bf, pv c.bz, pv c.bp]), (27, c.vd), (28, i64 n), (29, i64 (k : Nat))]) (fun g w' => SInv w w' c n W eight (k + 1) g.1 g.2) ?_ ?_
      ·
        refine C.block <| C.seq <| C.region <| E.mv rfl rfl <| ?_
        refine E.get (k := k) rfl rfl hI.sw.rd rfl hkd Try.underlying22 (by kernel_rfl) Try.underlying4 rfl rfl rfl ?_
        refine E.asg rfl rfl <| E.asg rfl rfl <| E.nil <| X.next <| C.seq <| C.seq <| C.region <| E.mv rfl rfl <| ?_
        refine E.load rfl Try.underlying4 rfl (hI.sw.hd.cell 0) rfl ?_
        refine E.neb rfl rfl Try.underlying4 rfl <| E.nil <| X.next <| ?_
        refine C.cond rfl (fun hc => ?_) (fun hc => ?_)
        ·
          refine C.seq <| C.region <| ?_
          refine E.load rfl Try.underlying57 rfl (hI.sw.u.hp.cell 0) rfl ?_
          refine E.mv rfl rfl <| ?_
          refine E.idx (sz := 1) rfl rfl hI.sw.u.own.rd Try.underlying57 (by kernel_rfl) (by omega) (by have := hI.pl; omega) (by decide) rfl ?_
          have hkp : k < par.length := by have := hI.pl; omega
          rw [show (k : Int).toNat * 1 = k from by omega]
          refine E.store rfl rfl (by kernel_rfl) rfl (hI.sw.u.own.cellAt hkp).1 (hI.sw.u.own.cellAt hkp).2.1 ?_
          obtain ⟨s1, f1⟩ := hI.sw.setP hkp (-1)
          have hnd : c.dk[k]? ≠ some c.dark := by
            rw [List.getElem?_eq_getElem hkd]; intro e; have := Option.some.inj e; rw [this] at hc; simp at hc
          refine E.nil <| X.next <| C.exit <| X.exitT <| X.outE <| X.join (par.set k (-1), siz) (Sub.cons rfl <| Sub.cons rfl <| Sub.cons rfl <| Sub.cons rfl <| Sub.cons rfl <| Sub.cons rfl <| Sub.cons rfl <| Sub.cons rfl <| Sub.cons rfl <| Sub.cons rfl <| Sub.nil _) ⟨s1, by rw [List.length_set]; exact hI.pl, hI.zl, f1 _ hI.ext (Nat.le_refl _), ?_, fun i hi hd => ?_⟩
          · refine Says.iff (hI.says.away (a := k) (fun i hi => by have := hi.1; omega) (-1)) (fun i => ⟨fun h => ⟨by have := h.1; omega, h.2⟩, fun h => ⟨?_, h.2⟩⟩) (fun i j => ⟨fun h => ⟨by have := h.1; omega, h.2⟩, fun h => ⟨?_, h.2⟩⟩)
            · have := h.1; have : i ≠ k := fun e => hnd (e ▸ h.2); omega
            · have := h.1; have : i ≠ k := fun e => hnd (e ▸ h.2.1); omega
          · by_cases e : i = k
            · subst e; rw [List.getElem?_set_self hkp]
            · rw [List.getElem?_set_ne (fun h => e h.symm)]; exact hI.light i (by omega) hd
        ·
          have hdk : c.dk[k]? = some c.dark := by
            rw [List.getElem?_eq_getElem hkd]; simpa using hc
          have hkp : k < par.length := by have := hI.pl; omega
          have hkz : k < siz.length := by have := hI.zl; omega

          refine C.skip <| X.next <| C.seq <| C.held (fun w' => ∃ par' siz', SW w' w.heap.size c par' siz' ∧ par'.length = n ∧ siz'.length = n) (by kernel_rfl) fun wh hwh hhh => ?_
          have s0 := hI.sw.ext hwh
          have hS : ∃ par' siz', SW wh w.heap.size c par' siz' ∧ par'.length = n ∧ siz'.length = n := ⟨par, siz, s0, hI.pl, hI.zl⟩
          refine H.take 1 rfl rfl (by kernel_rfl) (by kernel_rfl) (by kernel_rfl) hS (fun w' hS => Y.mv rfl) rfl ?_
          refine H.take 3 rfl rfl (by kernel_rfl) (by kernel_rfl) (by kernel_rfl) hS (fun w' hS => Y.mv rfl) rfl ?_
          refine H.take 4 rfl rfl (by kernel_rfl) (by kernel_rfl) (by kernel_rfl) hS (fun w' hS => Y.mv rfl) rfl ?_
          refine H.take 5 rfl rfl (by kernel_rfl) (by kernel_rfl) (by kernel_rfl) hS (fun w' hS => Y.conv rfl Try.underlying3 Try.underlying21 (IntWalk.i32_in _ (by omega))) rfl ?_
          refine H.take 0 rfl rfl (by kernel_rfl) (by kernel_rfl) (by kernel_rfl) hS (fun w' hS => Y.load rfl Try.underlying57 rfl (hS.choose_spec.choose_spec.1.u.hp.cell 0)) rfl ?_
          refine H.take 6 rfl rfl (by kernel_rfl) (by kernel_rfl) (by kernel_rfl) hS (fun w' hS => Y.idx (sz := 1) rfl rfl hS.choose_spec.choose_spec.1.u.own.rd Try.underlying57 (by kernel_rfl) (by omega) (by have := hS.choose_spec.choose_spec.2.1; omega) (by decide)) rfl ?_
          refine H.take 2 rfl rfl (by kernel_rfl) (by kernel_rfl) (by kernel_rfl) hS (fun w' hS => Y.load rfl Try.underlying57 rfl (hS.choose_spec.choose_spec.1.hz.cell 0)) rfl ?_
          rw [show (k : Int).toNat * 1 = k from by omega]
          refine H.only 7 rfl (by kernel_rfl) ?_
          refine E.store rfl rfl (by kernel_rfl) rfl (s0.u.own.cellAt hkp).1 (s0.u.own.cellAt hkp).2.1 ?_
          obtain ⟨s1, f1⟩ := s0.setP hkp (k : Int)
          have hS : ∃ par' siz', SW (wh.setCell (el c.vp k) (i32 k)) w.heap.size c par' siz' ∧ par'.length = n ∧ siz'.length = n := ⟨_, _, s1, by rw [List.length_set]; exact hI.pl, hI.zl⟩
          refine H.back hS ?_
          refine H.take 8 rfl rfl (by kernel_rfl) (by kernel_rfl) (by kernel_rfl) hS (fun w' hS => Y.idx (sz := 1) rfl rfl hS.choose_spec.choose_spec.1.oz.rd Try.underlying57 (by kernel_rfl) (by omega) (by have := hS.choose_spec.choose_spec.2.2; omega) (by decide)) rfl ?_
          rw [show (k : Int).toNat * 1 = k from by omega]
          refine H.only 9 rfl (by kernel_rfl) ?_
          refine E.store rfl rfl (by kernel_rfl) rfl (s1.oz.cellAt hkz).1 (s1.oz.cellAt hkz).2.1 ?_
          obtain ⟨s2, f2⟩ := s1.setZ hkz 1
          have hS : ∃ par' siz', SW ((wh.setCell (el c.vp k) (i32 k)).setCell (el c.vz k) (i32 1)) w.heap.size c par' siz' ∧ par'.length = n ∧ siz'.length = n := ⟨_, _, s2, by rw [List.length_set]; exact hI.pl, by rw [List.length_set]; exact hI.zl⟩
          have t0 : Stg wk ((wh.setCell (el c.vp k) (i32 k)).setCell (el c.vz k) (i32 1)) w.heap.size c n W eight k (fun _ => False) (par.set k (k : Int)) (siz.set k 1) := by
            refine ⟨s2, by rw [List.length_set]; exact hI.pl, by rw [List.length_set]; exact hI.zl, ((Fr.ext hwh).trans f1).trans f2, ?_, fun i hi hd => ?_⟩
            · refine Says.iff (hI.says.one hkp (fun i hi => by have := hi.1; omega) (fun i j hij => hij.in)) (fun i => ⟨fun h => ?_, fun h => ?_⟩) (fun i j => ⟨fun h => .inl h, fun h => h.elim id fun h => h.2.2.elim⟩)
              · rcases h with h | rfl
                · exact ⟨by have := h.1; omega, h.2⟩
                · exact ⟨by omega, hdk⟩
              · by_cases e : i = k
                · exact .inr e
                · exact .inl ⟨by have := h.1; omega, h.2⟩
            · rw [List.getElem?_set_ne (by omega)]; exact hI.light i hi hd
          refine H.back hS ?_

          refine H.done (by kernel_rfl) <| X.next <| C.seq <| C.drawn (by kernel_rfl) (by kernel_rfl) <| ?_
          refine Q.mv rfl rfl ?_
          refine Q.fld (o := 0) (sz := 0) rfl Try.underlying24 rfl rfl (by kernel_rfl) rfl ?_
          refine Q.load rfl Try.underlying3 rfl (t0.sw.hm.cell 0) rfl ?_
          rw [hcW]
          refine Q.rem rfl rfl (by omega) (IntWalk.rem_in _ _ (by omega)) rfl ?_
          refine Q.mv rfl rfl ?_
          refine Q.fld (o := 0) (sz := 0) rfl Try.underlying24 rfl rfl (by kernel_rfl) rfl ?_
          refine Q.load rfl Try.underlying3 rfl (t0.sw.hm.cell 0) rfl ?_
          rw [hcW]
          refine Q.quo rfl rfl (by omega) (IntWalk.i64_quo _ _ (by omega)) rfl ?_
          rw [← Int.natCast_emod, ← Int.natCast_ediv]
          refine Q.asg rfl rfl ?_
          refine Q.asg rfl rfl ?_
          refine Q.nil <| fun w2 hx2 => X.next <| ?_

          refine C.cut (G := List Int × List Int) (fun _ => [(2, .bool eight), (3, pv c.bm), (4, pv c.bd), (7, pv c.bp), (8, pv c.bz), (9, pv c.bf), (10, fnv 47 [pv c.bm, pv c.bd, pv c.bf, pv c.bz, pv c.bp]), (11, i64 (k : Nat)), (13, i64 ((k % W : Nat) : Int)), (14, i64 ((k / W : Nat) : Int)), (27, c.vd), (28, i64 n), (29, i64 (k : Nat))]) (fun g w' => Stg wk w' w.heap.size c n W eight k (fun j => (0 < k % W ∧ j + 1 = k)) g.1 g.2) ?_ ?_
          ·
            refine C.seq <| C.region <| E.mv rfl rfl <| E.bin rfl rfl rfl rfl <| E.nil <| X.next <| ?_
            refine C.cond' rfl (fun hc => ?_) (fun hc => ?_)
            ·
              have hg : Stg wk w2 w.heap.size c n W eight k (fun _ => False) (par.set k (k : Int), siz.set k 1).1 (par.set k (k : Int), siz.set k 1).2 := t0.ext hx2
              generalize (par.set k (k : Int), siz.set k 1) = g at hg
              obtain ⟨b, hb⟩ : ∃ b : Nat, b + 1 = k := ⟨k - 1, by have hc' : (0 : Int) < ((k % W : Nat) : Int) := hc; have := Nat.mod_le k W; omega⟩
              refine C.region <| E.mv rfl rfl <| E.mv rfl rfl <| E.mv rfl rfl <| ?_
              refine E.sub' rfl rfl (by omega) rfl ?_
              rw [show (k : Int) - 1 = (b : Int) from by omega]
              refine E.callv rfl rfl rfl (unite_ret w.heap.size c n k b g.1 g.2 _ _ _ hg.sw hg.says ⟨by omega, hdk⟩ (fun hb => ⟨by omega, hb⟩) (by omega) (by omega) hdn hg.pl hg.zl (by omega)) ?_
              rintro _ w3 ⟨par', siz', hu⟩
              refine E.nil <| X.join (par', siz') (Sub.cons rfl <| Sub.cons rfl <| Sub.cons rfl <| Sub.cons rfl <| Sub.cons rfl <| Sub.cons rfl <| Sub.cons rfl <| Sub.cons rfl <| Sub.cons rfl <| Sub.cons rfl <| Sub.cons rfl <| Sub.cons rfl <| Sub.cons rfl <| Sub.nil _) ((hg.step hu).iff fun j => ?_)
              have hc' : (0 : Int) < ((k % W : Nat) : Int) := hc
              exact ⟨fun h => h.elim False.elim fun h => ⟨by omega, by omega⟩, fun h => .inr (by omega)⟩
            ·
              refine C.skip <| X.join (par.set k (k : Int), siz.set k 1) (Sub.cons rfl <| Sub.cons rfl <| Sub.cons rfl <| Sub.cons rfl <| Sub.cons rfl <| Sub.cons rfl <| Sub.cons rfl <| Sub.cons rfl <| Sub.cons rfl <| Sub.cons rfl <| Sub.cons rfl <| Sub.cons rfl <| Sub.cons rfl <| Sub.nil _) ((t0.ext hx2).iff fun j => ?_)
              have hc' : ¬ (0 : Int) < ((k % W : Nat) : Int) := hc
              exact ⟨False.elim, fun h => by omega⟩
          ·
            rintro g w3 hg

            refine C.cut (G := List Int × List Int) (fun _ => [(2, .bool eight), (3, pv c.bm), (4, pv c.bd), (7, pv c.bp), (8, pv c.bz), (9, pv c.bf), (10, fnv 47 [pv c.bm, pv c.bd, pv c.bf, pv c.bz, pv c.bp]), (11, i64 (k : Nat)), (13, i64 ((k % W : Nat) : Int)), (14, i64 ((k / W : Nat) : Int)), (27, c.vd), (28, i64 n), (29, i64 (k : Nat))]) (fun g w' => Stg wk w' w.heap.size c n W eight k (fun j => (0 < k % W ∧ j + 1 = k) ∨ (0 < k / W ∧ j + W = k)) g.1 g.2) ?_ ?_
            ·
              refine C.seq <| C.region <| E.mv rfl rfl <| E.bin rfl rfl rfl rfl <| E.nil <| X.next <| ?_
              refine C.cond' rfl (fun hc => ?_) (fun hc => ?_)
              ·
                have hc' : 0 < k / W := by have hc' : (0 : Int) < ((k / W : Nat) : Int) := hc; omega
                have hlo := row_lo hc'
                obtain ⟨b, hb⟩ : ∃ b : Nat, b + W = k := ⟨k - W, by omega⟩
                refine C.region <| E.mv rfl rfl <| E.mv rfl rfl <| E.mv rfl rfl <| ?_
                refine E.fld (o := 0) (sz := 0) rfl Try.underlying24 rfl rfl (by kernel_rfl) rfl ?_
                refine E.load rfl Try.underlying3 rfl (hg.sw.hm.cell 0) rfl ?_
                rw [hcW]
                refine E.sub' rfl rfl (by omega) rfl ?_
                rw [show (k : Int) - (W : Int) = (b : Int) from by omega]
                refine E.callv rfl rfl rfl (unite_ret w.heap.size c n k b g.1 g.2 _ _ _ hg.sw hg.says ⟨by omega, hdk⟩ (fun hb => ⟨by omega, hb⟩) (by omega) (by omega) hdn hg.pl hg.zl (by omega)) ?_
                rintro _ w4 ⟨par', siz', hu⟩
                refine E.nil <| X.join (par', siz') (Sub.cons rfl <| Sub.cons rfl <| Sub.cons rfl <| Sub.cons rfl <| Sub.cons rfl <| Sub.cons rfl <| Sub.cons rfl <| Sub.cons rfl <| Sub.cons rfl <| Sub.cons rfl <| Sub.cons rfl <| Sub.cons rfl <| Sub.cons rfl <| Sub.nil _) ((hg.step hu).iff fun j => ?_)
                exact ⟨fun h => h.imp id fun h => ⟨hc', by omega⟩, fun h => h.imp id fun h => by omega⟩
              ·
                refine C.skip <| X.join g (Sub.cons rfl <| Sub.cons rfl <| Sub.cons rfl <| Sub.cons rfl <| Sub.cons rfl <| Sub.cons rfl <| Sub.cons rfl <| Sub.cons rfl <| Sub.cons rfl <| Sub.cons rfl <| Sub.cons rfl <| Sub.cons rfl <| Sub.cons rfl <| Sub.nil _) (hg.iff fun j => ?_)
                have hc' : ¬ (0 : Int) < ((k / W : Nat) : Int) := hc
                exact ⟨.inl, fun h => h.elim id fun h => by omega⟩
            ·
              rintro g w4 hg

              refine C.cut (G := List Int × List Int) (fun _ => [(2, .bool eight), (3, pv c.bm), (4, pv c.bd), (7, pv c.bp), (8, pv c.bz), (9, pv c.bf), (10, fnv 47 [pv c.bm, pv c.bd, pv c.bf, pv c.bz, pv c.bp]), (11, i64 (k : Nat)), (13, i64 ((k % W : Nat) : Int)), (14, i64 ((k / W : Nat) : Int)), (27, c.vd), (28, i64 n), (29, i64 (k : Nat))]) (fun g w' => Stg wk w' w.heap.size c n W eight k (fun j => ((0 < k % W ∧ j + 1 = k) ∨ (0 < k / W ∧ j + W = k)) ∨ (eight = true ∧ 0 < k / W ∧ 0 < k % W ∧ j + W + 1 = k)) g.1 g.2) ?_ ?_
              ·
                refine C.seq <| C.region <| E.mv rfl rfl <| E.mv rfl rfl <| ?_
                cases eight with
                | false =>
                  refine E.off rfl rfl rfl rfl <| E.off rfl rfl rfl rfl <| E.pick rfl rfl rfl <| E.mv rfl rfl <| E.off rfl rfl rfl rfl <| E.off rfl rfl rfl rfl <| E.pick rfl rfl rfl <| E.nil <| X.next <| C.condF rfl <| C.skip <| X.join g (Sub.cons rfl <| Sub.cons rfl <| Sub.cons rfl <| Sub.cons rfl <| Sub.cons rfl <| Sub.cons rfl <| Sub.cons rfl <| Sub.cons rfl <| Sub.cons rfl <| Sub.cons rfl <| Sub.cons rfl <| Sub.cons rfl <| Sub.cons rfl <| Sub.nil _) (hg.iff fun j => ⟨.inl, fun h => h.elim id fun h => by cases h.1⟩)
                | true =>
                refine E.on rfl rfl (E.mv rfl rfl ?_)
                refine E.on rfl rfl (E.bin rfl rfl rfl rfl ?_)
                by_cases hy : (0 : Int) < ((k / W : Nat) : Int)
                case neg =>
                  rw [decide_eq_false hy]
                  refine E.pick rfl rfl rfl <| E.mv rfl rfl <| E.off rfl rfl rfl rfl <| E.off rfl rfl rfl rfl <| E.pick rfl rfl rfl <| E.nil <| X.next <| C.condF rfl <| C.skip <| X.join g (Sub.cons rfl <| Sub.cons rfl <| Sub.cons rfl <| Sub.cons rfl <| Sub.cons rfl <| Sub.cons rfl <| Sub.cons rfl <| Sub.cons rfl <| Sub.cons rfl <| Sub.cons rfl <| Sub.cons rfl <| Sub.cons rfl <| Sub.cons rfl <| Sub.nil _) (hg.iff fun j => ⟨.inl, fun h => h.elim id fun h => by have := h.2.1; omega⟩)
                rw [decide_eq_true hy]
                have hy' : 0 < k / W := by omega
                have hlo := row_lo hy'
                refine E.pick rfl rfl rfl <| E.mv rfl rfl <| ?_
                refine E.on rfl rfl (E.mv rfl rfl ?_)
                refine E.on rfl rfl (E.bin rfl rfl rfl rfl ?_)
                refine E.pick rfl rfl rfl <| E.nil <| X.next <| ?_
                refine C.cond' rfl (fun hc => ?_) (fun hc => ?_)
                ·
                  have hc' : 0 < k % W := by have hc' : (0 : Int) < ((k % W : Nat) : Int) := hc; omega
                  obtain ⟨b, hb⟩ : ∃ b : Nat, b + W + 1 = k := ⟨k - W - 1, by omega⟩
                  refine C.region <| E.mv rfl rfl <| E.mv rfl rfl <| E.mv rfl rfl <| ?_
                  refine E.fld (o := 0) (sz := 0) rfl Try.underlying24 rfl rfl (by kernel_rfl) rfl ?_
                  refine E.load rfl Try.underlying3 rfl (hg.sw.hm.cell 0) rfl ?_
                  rw [hcW]
                  refine E.sub' rfl rfl (by omega) rfl ?_
                  refine E.sub' rfl rfl (by omega) rfl ?_
                  rw [show (k : Int) - (W : Int) - 1 = (b : Int) from by omega]
                  refine E.callv rfl rfl rfl (unite_ret w.heap.size c n k b g.1 g.2 _ _ _ hg.sw hg.says ⟨by omega, hdk⟩ (fun hb => ⟨by omega, hb⟩) (by omega) (by omega) hdn hg.pl hg.zl (by omega)) ?_
                  rintro _ w5 ⟨par', siz', hu⟩
                  refine E.nil <| X.join (par', siz') (Sub.cons rfl <| Sub.cons rfl <| Sub.cons rfl <| Sub.cons rfl <| Sub.cons rfl <| Sub.cons rfl <| Sub.cons rfl <| Sub.cons rfl <| Sub.cons rfl <| Sub.cons rfl <| Sub.cons rfl <| Sub.cons rfl <| Sub.cons rfl <| Sub.nil _) ((hg.step hu).iff fun j => ?_)
                  exact ⟨fun h => h.imp id fun h => ⟨rfl, hy', hc', by omega⟩, fun h => h.imp id fun h => by omega⟩
                ·
                  refine C.skip <| X.join g (Sub.cons rfl <| Sub.cons rfl <| Sub.cons rfl <| Sub.cons rfl <| Sub.cons rfl <| Sub.cons rfl <| Sub.cons rfl <| Sub.cons rfl <| Sub.cons rfl <| Sub.cons rfl <| Sub.cons rfl <| Sub.cons rfl <| Sub.cons rfl <| Sub.nil _) (hg.iff fun j => ?_)
                  have hc' : ¬ (0 : Int) < ((k % W : Nat) : Int) := hc
                  exact ⟨.inl, fun h => h.elim id fun h => by omega⟩
              ·
                rintro g w5 hg
                have fin : ∀ (g : List Int × List Int) w', Stg wk w' w.heap.size c n W eight k (fun j => Back W eight k j) g.1 g.2 → SInv w w' c n W eight (k + 1) g.1 g.2 := fun g w' h => by
                  refine ⟨h.sw, h.pl, h.zl, h.fr _ hI.ext (Nat.le_refl _), Says.iff h.says (fun _ => Iff.rfl) (fun i j => ⟨fun e => ?_, fun e => ?_⟩), fun i hi hd => h.light i (by have : i ≠ k := fun e => hd (e ▸ hdk); omega) hd⟩
                  · rcases e with e | ⟨rfl, e1, e2⟩
                    · exact ⟨by have := e.1; omega, e.2⟩
                    · exact ⟨by omega, hdk, e1, e2⟩
                  · by_cases ek : i = k
                    · subst ek; exact .inr ⟨rfl, e.2.2.1, e.2.2.2⟩
                    · exact .inl ⟨by have := e.1; omega, e.2⟩
                have bk : ∀ j, Back W eight k j ↔ ((((0 < k % W ∧ j + 1 = k) ∨ (0 < k / W ∧ j + W = k)) ∨ (eight = true ∧ 0 < k / W ∧ 0 < k % W ∧ j + W + 1 = k)) ∨ (eight = true ∧ 0 < k / W ∧ k % W + 1 < W ∧ j + W = k + 1)) := fun j => by unfold Back; exact or_assoc.symm
                refine C.seq <| C.region <| E.mv rfl rfl <| E.mv rfl rfl <| ?_
                cases eight with
                | false =>
                  refine E.off rfl rfl rfl rfl <| E.off rfl rfl rfl rfl <| E.pick rfl rfl rfl <| E.mv rfl rfl <| E.off rfl rfl rfl rfl <| E.off rfl rfl rfl rfl <| E.off rfl rfl rfl rfl <| E.off rfl rfl rfl rfl <| E.off rfl rfl rfl rfl <| E.pick rfl rfl rfl <| E.nil <| X.next <| C.condF rfl <| C.skip <| X.outN <| X.join g (Sub.cons rfl <| Sub.cons rfl <| Sub.cons rfl <| Sub.cons rfl <| Sub.cons rfl <| Sub.cons rfl <| Sub.cons rfl <| Sub.cons rfl <| Sub.cons rfl <| Sub.cons rfl <| Sub.nil _) (fin _ _ (hg.iff fun j => by rw [bk]; exact ⟨.inl, fun h => h.elim id fun h => by cases h.1⟩))
                | true =>
                refine E.on rfl rfl (E.mv rfl rfl ?_)
                refine E.on rfl rfl (E.bin rfl rfl rfl rfl ?_)
                by_cases hy : (0 : Int) < ((k / W : Nat) : Int)
                case neg =>
                  rw [decide_eq_false hy]
                  refine E.pick rfl rfl rfl <| E.mv rfl rfl <| E.off rfl rfl rfl rfl <| E.off rfl rfl rfl rfl <| E.off rfl rfl rfl rfl <| E.off rfl rfl rfl rfl <| E.off rfl rfl rfl rfl <| E.pick rfl rfl rfl <| E.nil <| X.next <| C.condF rfl <| C.skip <| X.outN <| X.join g (Sub.cons rfl <| Sub.cons rfl <| Sub.cons rfl <| Sub.cons rfl <| Sub.cons rfl <| Sub.cons rfl <| Sub.cons rfl <| Sub.cons rfl <| Sub.cons rfl <| Sub.cons rfl <| Sub.nil _) (fin _ _ (hg.iff fun j => by rw [bk]; exact ⟨.inl, fun h => h.elim id fun h => by have := h.2.1; omega⟩))
                rw [decide_eq_true hy]
                have hy' : 0 < k / W := by omega
                have hlo := row_lo hy'
                refine E.pick rfl rfl rfl <| E.mv rfl rfl <| ?_
                refine E.on rfl rfl (E.mv rfl rfl ?_)
                refine E.on rfl rfl (E.fld (o := 0) (sz := 0) rfl Try.underlying24 rfl rfl (by kernel_rfl) rfl ?_)
                refine E.on rfl rfl (E.load rfl Try.underlying3 rfl (hg.sw.hm.cell 0) rfl ?_)
                rw [hcW]
                refine E.on rfl rfl (E.sub' rfl rfl (by omega) rfl ?_)
                refine E.on rfl rfl (E.bin rfl rfl rfl rfl ?_)
                refine E.pick rfl rfl rfl <| E.nil <| X.next <| ?_
                refine C.cond' rfl (fun hc => ?_) (fun hc => ?_)
                ·
                  have hc' : k % W + 1 < W := by have hc' : ((k % W : Nat) : Int) < (W : Int) - 1 := hc; omega
                  obtain ⟨b, hb⟩ : ∃ b : Nat, b + W = k + 1 := ⟨k + 1 - W, by omega⟩
                  refine C.region <| E.mv rfl rfl <| E.mv rfl rfl <| E.mv rfl rfl <| ?_
                  refine E.fld (o := 0) (sz := 0) rfl Try.underlying24 rfl rfl (by kernel_rfl) rfl ?_
                  refine E.load rfl Try.underlying3 rfl (hg.sw.hm.cell 0) rfl ?_
                  rw [hcW]
                  refine E.sub' rfl rfl (by omega) rfl ?_
                  refine E.add rfl rfl (by omega) rfl ?_
                  rw [show (k : Int) - (W : Int) + 1 = (b : Int) from by omega]
                  refine E.callv rfl rfl rfl (unite_ret w.heap.size c n k b g.1 g.2 _ _ _ hg.sw hg.says ⟨by omega, hdk⟩ (fun hb => ⟨by omega, hb⟩) (by omega) (by omega) hdn hg.pl hg.zl (by omega)) ?_
                  rintro _ w6 ⟨par', siz', hu⟩
                  refine E.nil <| X.outN <| X.join (par', siz') (Sub.cons rfl <| Sub.cons rfl <| Sub.cons rfl <| Sub.cons rfl <| Sub.cons rfl <| Sub.cons rfl <| Sub.cons rfl <| Sub.cons rfl <| Sub.cons rfl <| Sub.cons rfl <| Sub.nil _) (fin (par', siz') _ ((hg.step hu).iff fun j => ?_))
                  rw [bk]
                  exact ⟨fun h => h.imp id fun h => ⟨rfl, hy', hc', by omega⟩, fun h => h.imp id fun h => by omega⟩
                ·
                  refine C.skip <| X.outN <| X.join g (Sub.cons rfl <| Sub.cons rfl <| Sub.cons rfl <| Sub.cons rfl <| Sub.cons rfl <| Sub.cons rfl <| Sub.cons rfl <| Sub.cons rfl <| Sub.cons rfl <| Sub.cons rfl <| Sub.nil _) (fin _ _ (hg.iff fun j => ?_))
                  have hc' : ¬ ((k % W : Nat) : Int) < (W : Int) - 1 := hc
                  rw [bk]
                  exact ⟨.inl, fun h => h.elim id fun h => by omega⟩
      ·
        rintro g wg hg
        refine C.region <| ?_
        refine E.add rfl rfl (by omega) rfl ?_
        refine E.mv rfl rfl <| E.nil <| X.again (k + 1, g.1, g.2) (Sub.cons rfl <| Sub.cons rfl <| Sub.cons rfl <| Sub.cons rfl <| Sub.cons rfl <| Sub.cons rfl <| Sub.cons rfl <| Sub.cons rfl <| Sub.cons rfl <| Sub.cons rfl <| Sub.nil _) ⟨hk', hg⟩ (by simp only; omega)
    ·
      obtain rfl : k = n := by have hc' : ¬ (k : Int) < (n : Int) := hc; omega
      have hR0 : RInv w wk c k W eight 0 par siz := ⟨hI.sw, hI.pl, hI.ext, hI.says, hI.light, fun i hi => by omega⟩
      refine C.exit <| X.exitT <| X.exitT <| X.outE <| X.next <| C.seq <| C.seq <| C.region <| ?_
      refine E.load rfl Try.underlying57 rfl (hI.sw.u.hp.cell 0) rfl ?_
      refine E.len rfl hI.sw.u.own.rd Try.underlying57 rfl ?_
      rw [hI.pl]
      refine E.mv rfl rfl <| E.nil <| X.next <| C.block <| ?_

      refine C.loop (G := Nat × List Int × List Int) (fun g => [(7, pv c.bp), (9, pv c.bf), (111, i64 k), (112, i64 (g.1 : Nat))]) (fun g w' => g.1 ≤ k ∧ RInv w w' c k W eight g.1 g.2.1 g.2.2) (fun g => k - g.1) (0, par, siz) ?_ ?_ ?_
      · exact Sub.cons rfl <| Sub.cons rfl <| Sub.cons rfl <| Sub.cons rfl <| Sub.nil _
      · exact ⟨Nat.zero_le _, hR0⟩
      · clear hR0 hI
        rintro ⟨i, par, siz⟩ wi ⟨hi, hR⟩
        simp only at hi hR
        refine C.seq <| C.region <| E.bin rfl rfl rfl rfl <| E.nil <| X.next <| C.seq <| ?_
        refine C.cond' rfl (fun hc => ?_) (fun hc => ?_)
        ·
          have hi' : i < k := by have hc' : (i : Int) < (k : Int) := hc; omega
          have hip : i < par.length := by have := hR.pl; omega
          refine C.skip <| X.next <| ?_

          refine C.cut (G := List Int × List Int) (fun _ => [(7, pv c.bp), (9, pv c.bf), (111, i64 k), (112, i64 (i : Nat))]) (fun g w' => RInv w w' c k W eight (i + 1) g.1 g.2) ?_ ?_
          ·
            refine C.block <| C.seq <| C.region <| E.mv rfl rfl <| E.asg rfl rfl <| E.nil <| X.next <| C.seq <| C.region <| ?_
            refine E.load rfl Try.underlying57 rfl (hR.sw.u.hp.cell 0) rfl ?_
            refine E.mv rfl rfl <| ?_
            refine E.get (k := i) rfl rfl hR.sw.u.own.rd rfl hip Try.underlying57 (by kernel_rfl) Try.underlying21 rfl rfl rfl ?_
            refine E.bin rfl rfl rfl rfl <| E.nil <| X.next <| ?_
            refine C.cond' rfl (fun hc => ?_) (fun hc => ?_)
            ·
              have hdi : c.dk[i]? = some c.dark := Decidable.byContradiction fun hd => by
                have := hR.light i hi' hd
                rw [List.getElem?_eq_getElem hip] at this
                exact hc (Option.some.inj this)
              obtain ⟨r, hDr, m, hpm⟩ := hR.says.root i ⟨hi', hdi⟩

              refine C.held (fun w' => ∃ par', UW w' w.heap.size c.bp c.bf c.vp par' ∧ par'.length = k) (by kernel_rfl) fun wh hwh hhh => ?_
              have s0 := hR.sw.ext hwh
              have hS : ∃ par', UW wh w.heap.size c.bp c.bf c.vp par' ∧ par'.length = k := ⟨par, s0.u, hR.pl⟩
              refine H.take 1 rfl rfl (by kernel_rfl) (by kernel_rfl) (by kernel_rfl) hS (fun w' hS => Y.mv rfl) rfl ?_
              refine H.take 3 rfl rfl (by kernel_rfl) (by kernel_rfl) (by kernel_rfl) hS (fun w' hS => Y.mv rfl) rfl ?_
              refine H.take 4 rfl rfl (by kernel_rfl) (by kernel_rfl) (by kernel_rfl) hS (fun w' hS => Y.conv rfl Try.underlying3 Try.underlying21 (IntWalk.i32_in _ (by omega))) rfl ?_
              refine H.take 0 rfl rfl (by kernel_rfl) (by kernel_rfl) (by kernel_rfl) hS (fun w' hS => Y.load rfl Try.underlying57 rfl (hS.choose_spec.1.hp.cell 0)) rfl ?_
              refine H.only 2 rfl (by kernel_rfl) ?_
              refine E.load rfl Try.underlying71 rfl (s0.u.hf.cell 0) rfl ?_
              refine H.back hS ?_
              refine H.only 5 rfl (by kernel_rfl) ?_
              refine E.callv rfl rfl rfl (find_ret w.heap.size c.bp c.bf c.vp m i r par _ hpm s0.u) ?_
              rintro _ w1 ⟨rfl, par1, hu1, hc1, hg1⟩
              have s1 := s0.parG hg1 hu1
              have hl1 : par1.length = k := by rw [hc1.1]; exact hR.pl
              have hS : ∃ par', UW w1 w.heap.size c.bp c.bf c.vp par' ∧ par'.length = k := ⟨par1, hu1, hl1⟩
              refine H.back hS ?_
              refine H.take 6 rfl rfl (by kernel_rfl) (by kernel_rfl) (by kernel_rfl) hS (fun w' hS => Y.idx (sz := 1) rfl rfl hS.choose_spec.1.own.rd Try.underlying57 (by kernel_rfl) (by omega) (by have := hS.choose_spec.2; omega) (by decide)) rfl ?_
              rw [show (i : Int).toNat * 1 = i from by omega]
              have hi1 : i < par1.length := by omega
              refine H.only 7 rfl (by kernel_rfl) ?_
              refine E.store rfl rfl (by kernel_rfl) rfl (hu1.own.cellAt hi1).1 (hu1.own.cellAt hi1).2.1 ?_
              obtain ⟨s2, f2⟩ := s1.setP hi1 (r : Int)
              have hS : ∃ par', UW (w1.setCell (el c.vp i) (i32 r)) w.heap.size c.bp c.bf c.vp par' ∧ par'.length = k := ⟨_, s2.u, by rw [List.length_set]; exact hl1⟩
              obtain ⟨m2, hc2⟩ := Comp.last hc1 ⟨m, hpm⟩
              have hDi : Dm c.dk c.dark k i := ⟨hi', hdi⟩
              have hR2 : RInv w (w1.setCell (el c.vp i) (i32 r)) c k W eight (i + 1) (par1.set i (r : Int)) siz := by
                refine ⟨s2, by rw [List.length_set]; exact hl1, (((Fr.ext hwh).trans (Fr.own s0.u.own hg1)).trans f2) _ hR.ext (Nat.le_refl _), hR.says.comp hc2, fun a ha hd => ?_, fun a ha hd => ?_⟩
                · rw [hc2.out hDi hR.says.step (fun hD => hd hD.2)]; exact hR.light a ha hd
                · by_cases e : a = i
                  · subst e; exact ⟨r, by rw [List.getElem?_set_self hi1], hc2.root ⟨m, hpm⟩⟩
                  · obtain ⟨r', h1, h2⟩ := hR.done a (by omega) hd
                    exact ⟨r', Comp.val hc2 h1 h2, hc2.root h2⟩
              refine H.back hS ?_
              refine H.done (by kernel_rfl) <| X.outN <| X.join (par1.set i (r : Int), siz) (Sub.cons rfl <| Sub.cons rfl <| Sub.cons rfl <| Sub.cons rfl <| Sub.nil _) hR2
            ·
              have hdi : c.dk[i]? ≠ some c.dark := fun hd => by
                obtain ⟨r, hDr, hr⟩ := hR.says.root i ⟨hi', hd⟩
                have hv : par[i] = -1 := Decidable.byContradiction fun h => hc h
                obtain ⟨m, hm⟩ := hr
                cases m with
                | zero => have := hm.2; rw [List.getElem?_eq_getElem hip, hv] at this; have := Option.some.inj this; omega
                | succ m => obtain ⟨j, hj, _⟩ := hm; rw [List.getElem?_eq_getElem hip, hv] at hj; have := Option.some.inj hj; omega
              refine C.skip <| X.outN <| X.join (par, siz) (Sub.cons rfl <| Sub.cons rfl <| Sub.cons rfl <| Sub.cons rfl <| Sub.nil _) { hR with done := fun a ha hd => hR.done a (by have : a ≠ i := fun e => hdi (e ▸ hd); omega) hd }
          ·
            rintro g wg hg
            refine C.region <| ?_
            refine E.add rfl rfl (by omega) rfl ?_
            refine E.mv rfl rfl <| E.nil <| X.again (i + 1, g.1, g.2) (Sub.cons rfl <| Sub.cons rfl <| Sub.cons rfl <| Sub.cons rfl <| Sub.nil _) ⟨hi', hg⟩ (by simp only; omega)
        ·
          obtain rfl : i = k := by have hc' : ¬ (i : Int) < (k : Int) := hc; omega
          refine C.exit <| X.exitT <| X.exitT <| X.outE <| X.next <| C.seq <| C.region <| ?_
          refine E.load rfl Try.underlying57 rfl (hR.sw.u.hp.cell 0) rfl ?_
          refine E.asg rfl rfl <| E.nil <| X.next <| C.ret <| ret1 rfl rfl ?_
          exact ⟨par, hR.sw.u.own, by have := parted hR hdn; rw [hcdk, hcdark] at this; exact this, hR.ext⟩
end Go.Proofs.Ytnnmebpahickhaa
