/- Texts of the claim, laid together: SpreadM, Spread. -/
import Derived.Test.YtnnmebpahickhaaComponentsSymmetricTopMg5
import Derived.Test.YtnnmebpahickhaaComponentsSymmetricTopMg6
import Derived.Test.YtnnmebpahickhaaComponentsSymmetricTopMg8
/- reference of components: spread. -/
namespace Go.Proofs.Ytnnmebpahickhaa
set_option linter.unusedSimpArgs false
set_option linter.unusedVariables false
open Go.RowKit Sym Uf

/-- a row that is newer than w has grown -/
theorem grown_fresh {w w1 w2 : World} {r : Option Nat} {g : Option Nat} (h : w.grownBy w1 r) (k : w1.grownBy w2 g) (hg : ∀ x, g = some x → w.heap.size ≤ x) : w.grownBy w2 r := by
  obtain ⟨h1, h2, h3, h4, h5⟩ := h
  obtain ⟨k1, k2, k3, k4, k5⟩ := k
  refine ⟨k1.trans h1, k2.trans h2, k3.trans h3, by omega, fun i hi hne => ?_⟩
  rw [k5 i (by omega) (fun e => by have := hg i e.symm; omega)]
  exact h5 i hi hne
theorem Fl.le {W H : Nat} {eight : Bool} {dk : List Bool} {dark : Bool} {f : Nat} {num : Int} {lab0 lab : List Int} {found : List Nat} {i : Nat} (h : Fl W H eight dk dark f num lab0 lab found i) : found.length ≤ dk.length := by
  have := List.Nodup.length_le_of_subset (l₂ := List.range dk.length) h.nodup (fun x hx => List.mem_range.2 (List.getElem?_eq_some_iff.1 (h.ins x hx).1).1)
  simpa using this
/-- numbers of pixels, as they lie in memory -/
abbrev px (n : Nat) : Value := i64 (n : Int)
/-- the memory of spread -/
structure FW (w w' : World) (B0 bm : Nat) (vl vf vd : Value) (W H : Nat) (dk : List Bool) (lab : List Int) (found : List Nat) : Prop where
  ol : OwnL i64 w' B0 3 vl lab
  of : OwnL px w' w.heap.size 3 vf found
  hm : Blk w' bm 24 #[i64 W, i64 H, vd]
  rd : RdL Value.bool w' vd dk
  rb : dk = [] ∨ (vl.ownBlock ≠ some (bs vd).1 ∧ (bs vd).1 < w.heap.size)
  ap : Apart vl vf
  nl : vl.ownBlock ≠ some bm
  nf : vf.ownBlock ≠ some bm
  gr : w.grownBy w' vl.ownBlock
section
variable {w w' w'' : World} {B0 bm : Nat} {vl vf vd : Value} {W H : Nat} {dk : List Bool} {lab : List Int} {found : List Nat}
theorem FW.ext (h : FW w w' B0 bm vl vf vd W H dk lab found) (k : Ext w' w'') : FW w w'' B0 bm vl vf vd W H dk lab found :=
  { h with ol := h.ol.kept k, of := h.of.kept k, hm := h.hm.ext k, rd := h.rd.ext k, gr := grown_trans h.gr (k.toGrown _) }
theorem FW.setL (h : FW w w' B0 bm vl vf vd W H dk lab found) {i : Nat} (hi : i < lab.length) (z : Int) : FW w (w'.setCell (el vl i) (i64 z)) B0 bm vl vf vd W H dk (lab.set i z) found := by
  obtain ⟨_, _, c3⟩ := h.ol.cellAt hi
  have g := grown_set w' (el vl i) (i64 z)
  rw [← c3] at g
  refine { h with ol := h.ol.set hi z, of := Own.apart h.of g h.ap, hm := Blk.apart h.hm g h.nl, rd := ?_, gr := grown_trans h.gr g }
  rcases h.rb with hb | hb
  · exact Rd.grown h.rd g (.inl (by rw [hb]; rfl))
  · exact Rd.grown h.rd g (.inr fun e => hb.1 e.symm)
theorem FW.push {vf' : Value} {found' : List Nat} (h : FW w w' B0 bm vl vf vd W H dk lab found) (g : w'.grownBy w'' vf.ownBlock) (ho : OwnL px w'' w.heap.size 3 vf' found') (hl : Lies w' vf vf') : FW w w'' B0 bm vl vf' vd W H dk lab found' := by
  refine { h with ol := Own.apart h.ol g h.ap.symm, of := ho, hm := Blk.apart h.hm g h.nf, rd := ?_, ap := (h.ap.symm.grow hl h.ol).symm, nf := ?_, gr := grown_fresh h.gr g fun x hx => (World.ownsRow.lt h.of x hx).1 }
  · rcases h.rb with hb | hb
    · exact Rd.grown h.rd g (.inl (by rw [hb]; rfl))
    · exact Rd.grown h.rd g (.inr fun e => by have := (World.ownsRow.lt h.of _ e.symm).1; omega)
  · rcases hl with hl | ⟨y, hl, hge⟩
    · rw [hl]; exact h.nf
    · rw [hl]; intro e; have := Option.some.inj e; have := h.hm.lt; omega
end

end Go.Proofs.Ytnnmebpahickhaa

/- reference of components: spread. -/
namespace Go.Proofs.Ytnnmebpahickhaa
set_option linter.unusedSimpArgs false
set_option linter.unusedVariables false
open Go.RowKit Sym Uf

/-- what near answers, by pixels -/
theorem nrs_nb {W H p : Nat} {eight : Bool} {l : List Int} (h : Nrs (W : Int) (H : Int) eight ((p : Int) % (W : Int)) ((p : Int) / (W : Int)) (-1) 2 l) : (∀ j : Nat, (j : Int) ∈ l ↔ Nb W H eight p j) ∧ ∀ z ∈ l, ∃ j : Nat, z = (j : Int) ∧ j < W * H := by
  have e1 : (p : Int) % (W : Int) = ((p % W : Nat) : Int) := rfl
  have e2 : (p : Int) / (W : Int) = ((p / W : Nat) : Int) := rfl
  rw [e1, e2] at h
  constructor
  · intro j
    rw [h (j : Int)]
    constructor
    · rintro ⟨a, b, h1, h2, h3, h4, _, h6, h7⟩; exact ⟨a, b, h1, h2, h3, h4, h6, h7⟩
    · rintro ⟨a, b, h1, h2, h3, h4, h6, h7⟩; exact ⟨a, b, h1, h2, h3, h4, by omega, h6, h7⟩
  · intro z hz
    obtain ⟨a, b, h1, h2, h3, h4, _, ⟨h5, h6, h7, h8, h9⟩, h10⟩ := (h z).1 hz
    obtain ⟨x, hx⟩ : ∃ x : Nat, ((p % W : Nat) : Int) + a = x := ⟨(((p % W : Nat) : Int) + a).toNat, (Int.toNat_of_nonneg h6).symm⟩
    obtain ⟨y, hy⟩ : ∃ y : Nat, ((p / W : Nat) : Int) + b = y := ⟨(((p / W : Nat) : Int) + b).toNat, (Int.toNat_of_nonneg h8).symm⟩
    rw [hy, Int.add_assoc, hx] at h10
    rw [hx] at h7; rw [hy] at h9
    refine ⟨y * W + x, by rw [h10]; simp, ?_⟩
    have hy' : y + 1 ≤ H := by omega
    have := Nat.mul_le_mul_right W hy'
    rw [Nat.succ_mul] at this
    rw [Nat.mul_comm W H]; omega
set_option maxHeartbeats 2000000 in
theorem spread_ret (W H : Nat) (vd : Value) (dk : List Bool) (vl : Value) (lab0 : List Int) (f : Nat) (num : Int) (eight : Bool) (B0 : Nat) (w : World) (hW : 1 ≤ W ∧ W ≤ 4096) (hH : 1 ≤ H ∧ H ≤ 4096) (hn : dk.length = W * H) (hn0 : dk.length ≤ 4194304) (hrd : RdL Value.bool w vd dk) (hol : OwnL i64 w B0 3 vl lab0) (hnv : vl.ownBlock ≠ some (bs vd).1) (hll : lab0.length = dk.length) (hf : f < dk.length) (hnum : 0 ≤ num) (hcls : ∀ j : Nat, dk[j]? = some dk[f] → Cl (Ed W eight dk dk[f] dk.length) f j → ∃ z, lab0[j]? = some z ∧ z < 0) :
    Ret Try.prog 48 #[mat W H vd, vl, px f, i64 num, .bool eight] w fun v w' => ∃ vf lab found, v = .tuple #[vl, vf] ∧ OwnL i64 w' B0 3 vl lab ∧ OwnL px w' w.heap.size 3 vf found ∧ Fl W H eight dk dk[f] f num lab0 lab found found.length ∧ w.grownBy w' vl.ownBlock := by
  refine enter Try.func48 rfl (by kernel_rfl) Try.ntmps48 rfl ?_
  refine C.seq <| C.region <| ?_
  refine E.boxB (cs := [i64 W, i64 H, vd]) rfl rfl rfl ?_
  intro w1 b1 x1 z1
  obtain ⟨bm, hbm⟩ : ∃ bm, bm = w.heap.size := ⟨_, rfl⟩
  rw [← hbm] at b1 ⊢
  have nl : vl.ownBlock ≠ some bm := fun e => by have := (World.ownsRow.lt hol _ e).2; omega
  refine E.asg rfl rfl <| E.asg rfl rfl <| E.nil <| X.next <| C.seq <| C.region <| ?_
  refine E.fld (o := 2) (sz := 0) rfl Try.underlying24 rfl rfl (by kernel_rfl) rfl ?_
  refine E.load rfl Try.underlying22 rfl (b1.cell 2) rfl ?_
  refine E.mv rfl rfl <| ?_
  refine E.get (k := f) rfl rfl (hrd.ext x1) rfl hf Try.underlying22 (by kernel_rfl) Try.underlying4 rfl rfl rfl ?_
  refine E.asg rfl rfl <| E.nil <| X.next <| C.seq <| C.region <| E.mv rfl rfl <| E.mv rfl rfl <| E.mv rfl rfl <| ?_
  refine E.idx (sz := 1) rfl rfl (hol.kept x1).rd Try.underlying27 (by kernel_rfl) (by omega) (by omega) (by decide) rfl ?_
  rw [show (f : Int).toNat * 1 = f from by omega]
  have hfl : f < lab0.length := by omega
  refine E.store rfl rfl (by kernel_rfl) rfl ((hol.kept x1).cellAt hfl).1 ((hol.kept x1).cellAt hfl).2.1 ?_
  refine E.nil <| X.next <| C.seq <| C.region <| E.mv rfl rfl <| ?_
  refine E.mk1 (enc := px) f rfl Try.underlying27 elem_Tint rfl w.heap.size (by simp; omega) rfl ?_
  intro vf w2 of2 x2 nf2
  have hF0 : FW w w2 B0 bm vl vf vd W H dk (lab0.set f num) [f] := by
    have g1 := grown_set w1 (el vl f) (i64 num)
    rw [← ((hol.kept x1).cellAt hfl).2.2] at g1
    have hvd : (bs vd).1 < w.heap.size := World.block_lt_of_cell? w _ (hrd.cell hf)
    have hq := x1.size
    refine { ol := ((hol.kept x1).set hfl num).kept x2, of := of2, hm := (Blk.apart b1 g1 nl).ext x2, rd := (Rd.grown (hrd.ext x1) g1 (.inr fun e => hnv e.symm)).ext x2, rb := .inr ⟨hnv, hvd⟩, ap := fun g h1 h2 => ?_, nl := nl, nf := fun e => ?_, gr := grown_trans (grown_trans (x1.toGrown _) g1) (x2.toGrown _) }
    · rw [nf2] at h2; have h4 := Option.some.inj h2; have h3 := (World.ownsRow.lt hol _ h1).2; simp at h4; omega
    · rw [nf2] at e; have := Option.some.inj e; simp at this; omega
  have hL0 : Fl W H eight dk dk[f] f num lab0 (lab0.set f num) [f] 0 := Fl.start (List.getElem?_eq_getElem hf) hfl
  refine E.asg rfl rfl <| E.nil <| X.next <| C.seq <| C.seq <| C.region <| E.asg rfl rfl <| E.nil <| X.next <| C.block <| ?_

  refine C.loop (G := Nat × List Int × Value × List Nat) (fun g => [(1, vl), (3, i64 num), (4, .bool eight), (5, pv bm), (12, .bool dk[f]), (13, g.2.2.1), (14, i64 (g.1 : Nat))]) (fun g w' => g.1 ≤ g.2.2.2.length ∧ FW w w' B0 bm vl g.2.2.1 vd W H dk g.2.1 g.2.2.2 ∧ Fl W H eight dk dk[f] f num lab0 g.2.1 g.2.2.2 g.1) (fun g => dk.length - g.1) (0, lab0.set f num, vf, [f]) ?_ ?_ ?_
  · exact Sub.cons rfl <| Sub.cons rfl <| Sub.cons rfl <| Sub.cons rfl <| Sub.cons rfl <| Sub.cons rfl <| Sub.cons rfl <| Sub.nil _
  · exact ⟨Nat.zero_le _, hF0, hL0⟩
  · clear hF0 hL0
    rintro ⟨i, lab, vf, found⟩ wk ⟨hi, hF, hL⟩
    simp only at hi hF hL
    refine C.seq <| C.seq <| C.region <| E.mv rfl rfl <| E.mv rfl rfl <| ?_
    refine E.len rfl hF.of.rd Try.underlying27 rfl ?_
    refine E.bin rfl rfl rfl rfl <| E.nil <| X.next <| ?_
    refine C.cond' rfl (fun hc => ?_) (fun hc => ?_)
    ·

      have hi' : i < found.length := by have hc' : (i : Int) < (found.length : Int) := hc; omega
      obtain ⟨q, hq⟩ : ∃ q, found[i] = q := ⟨_, rfl⟩
      have hqf : found[i]? = some q := by rw [List.getElem?_eq_getElem hi', hq]
      have hqm : q ∈ found := List.mem_of_getElem? hqf
      have hqd := (hL.ins q hqm).1
      have hql := (List.getElem?_eq_some_iff.1 hqd).1
      have hfle := hL.le
      refine C.skip <| X.next <| C.seq <| C.block <| C.seq <| C.drawnT 6 (by kernel_rfl) (by kernel_rfl) fun wh hwh => ?_
      have hFh := hF.ext hwh
      refine S.loadA rfl Try.underlying24 rfl (by kernel_rfl) (hFh.hm.at 0 [i64 W, i64 H, vd] (fun j u h => by simpa using h)) rfl ?_
      refine S.mv rfl rfl ?_
      refine S.mv rfl rfl ?_
      refine S.idx (sz := 1) rfl rfl hFh.of.rd Try.underlying27 (by kernel_rfl) (by show (0 : Int) ≤ (i : Int); omega) (by show (i : Int) < (found.length : Int); omega) (by decide) rfl ?_
      rw [show (i : Int).toNat * 1 = i from by omega]
      refine S.load rfl Try.underlying3 rfl (hFh.of.cellAt hi').1 rfl ?_
      rw [hq]
      refine S.mv rfl rfl ?_
      refine S.nil ?_
      refine E.call rfl rfl (near_ret (W : Int) (H : Int) (q : Int) vd eight _ (by omega) (by omega) (by omega)) ?_
      rintro vn w3 ⟨l, on3, hN, hl9, x3⟩
      obtain ⟨hnb, hnz⟩ := nrs_nb hN
      have hF3 := hFh.ext x3
      have avn : Apart vl vn := fun g h1 h2 => by have h3 := (World.ownsRow.lt hFh.ol g h1).2; have h4 := (World.ownsRow.lt on3 g h2).1; omega
      have afn : Apart vf vn := fun g h1 h2 => by have h3 := (World.ownsRow.lt hFh.of g h1).2; have h4 := (World.ownsRow.lt on3 g h2).1; omega
      have on3 : OwnL i64 w3 w.heap.size 3 vn l := Own.lower on3 (by obtain ⟨_, _, _, h4, _⟩ := hFh.gr; exact h4)
      refine E.asg rfl rfl ?_
      refine E.nil <| X.next <| C.seq <| C.region <| E.asg rfl rfl <| E.nil <| X.next <| C.block <| ?_

      refine C.loop (G := Nat × List Int × Value × List Nat) (fun g => [(1, vl), (3, i64 num), (4, .bool eight), (5, pv bm), (12, .bool dk[f]), (13, g.2.2.1), (14, i64 (i : Nat)), (15, vn), (16, i64 (g.1 : Nat))]) (fun g w' => g.1 ≤ l.length ∧ FW w w' B0 bm vl g.2.2.1 vd W H dk g.2.1 g.2.2.2 ∧ Fl W H eight dk dk[f] f num lab0 g.2.1 g.2.2.2 i ∧ g.2.2.2[i]? = some q ∧ (∀ u j : Nat, u < g.1 → l[u]? = some (j : Int) → dk[j]? = some dk[f] → j ∈ g.2.2.2) ∧ OwnL i64 w' w.heap.size 3 vn l ∧ Apart vl vn ∧ Apart g.2.2.1 vn) (fun g => l.length - g.1) (0, lab, vf, found) ?_ ?_ ?_
      · exact Sub.cons rfl <| Sub.cons rfl <| Sub.cons rfl <| Sub.cons rfl <| Sub.cons rfl <| Sub.cons rfl <| Sub.cons rfl <| Sub.cons rfl <| Sub.cons rfl <| Sub.nil _
      · exact ⟨Nat.zero_le _, hF3, hL, hqf, fun u j hu => by omega, on3, avn, afn⟩
      · clear hF3 hFh hF hL on3 hqf hqm hi' hi hc hfle hq
        rintro ⟨t, lab, vf, found⟩ wt ⟨ht, hF, hL, hqf, hdone, on, avn, afn⟩
        simp only at ht hF hL hqf hdone on avn afn
        refine C.seq <| C.seq <| C.region <| E.mv rfl rfl <| E.mv rfl rfl <| ?_
        refine E.len rfl on.rd Try.underlying27 rfl ?_
        refine E.bin rfl rfl rfl rfl <| E.nil <| X.next <| ?_
        refine C.cond' rfl (fun hc => ?_) (fun hc => ?_)
        ·
          have ht' : t < l.length := by have hc' : (t : Int) < (l.length : Int) := hc; omega
          obtain ⟨j, hj, hjn⟩ := hnz _ (List.getElem_mem ht')
          have hjd : j < dk.length := by omega
          have hjl : j < lab.length := by rw [hL.len]; omega
          have hnbq : Nb W H eight q j := (hnb j).1 (hj ▸ List.getElem_mem ht')
          have hqm : q ∈ found := List.mem_of_getElem? hqf
          have hfle := hL.le
          have e1 : (t : Int).toNat * 1 = t := by omega
          have e2 : (j : Int).toNat * 1 = j := by omega
          refine C.skip <| X.next <| ?_

          refine C.cut (G := Nat × List Int × Value × List Nat) (fun g => [(1, vl), (3, i64 num), (4, .bool eight), (5, pv bm), (12, .bool dk[f]), (13, g.2.2.1), (14, i64 (i : Nat)), (15, vn), (16, i64 (t : Nat))]) (fun g w' => FW w w' B0 bm vl g.2.2.1 vd W H dk g.2.1 g.2.2.2 ∧ Fl W H eight dk dk[f] f num lab0 g.2.1 g.2.2.2 i ∧ g.2.2.2[i]? = some q ∧ (∀ u j : Nat, u < t + 1 → l[u]? = some (j : Int) → dk[j]? = some dk[f] → j ∈ g.2.2.2) ∧ OwnL i64 w' w.heap.size 3 vn l ∧ Apart vl vn ∧ Apart g.2.2.1 vn) ?_ ?_
          ·

            refine C.block <| C.seq <| C.drawn (by kernel_rfl) (by kernel_rfl) <| ?_
            refine Q.fld (o := 2) (sz := 0) rfl Try.underlying24 rfl rfl (by kernel_rfl) rfl ?_
            refine Q.load rfl Try.underlying22 rfl (hF.hm.cell 2) rfl ?_
            refine Q.mv rfl rfl ?_
            refine Q.mv rfl rfl ?_
            refine Q.idx (sz := 1) rfl rfl on.rd Try.underlying27 (by kernel_rfl) (by show (0 : Int) ≤ (t : Int); omega) (by show (t : Int) < (l.length : Int); omega) (by decide) rfl ?_
            rw [e1]
            refine Q.load rfl Try.underlying3 rfl (on.rd.cell ht') rfl ?_
            rw [hj]
            refine Q.idx (sz := 1) rfl rfl hF.rd Try.underlying22 (by kernel_rfl) (by omega) (by omega) (by decide) rfl ?_
            rw [e2]
            refine Q.load rfl Try.underlying4 rfl (hF.rd.cell hjd) rfl ?_
            refine Q.mv rfl rfl ?_
            refine Q.eqb rfl rfl Try.underlying4 rfl ?_
            refine Q.mv rfl rfl ?_
            have keep : (dk[j]? = some dk[f] → j ∈ found) → ∀ u b : Nat, u < t + 1 → l[u]? = some (b : Int) → dk[b]? = some dk[f] → b ∈ found := fun hk u b hu hb hd => by
              by_cases e : u = t
              · subst e
                rw [List.getElem?_eq_getElem ht', hj] at hb
                have : j = b := by have := Option.some.inj hb; omega
                subst this; exact hk hd
              · exact hdone u b (by omega) hb hd
            cases hb : (dk[j] == dk[f]) with
            | false =>
              refine Q.off rfl rfl rfl rfl <| Q.off rfl rfl rfl rfl <| Q.off rfl rfl rfl rfl <| Q.off rfl rfl rfl rfl <| Q.off rfl rfl rfl rfl <| Q.off rfl rfl rfl rfl <| Q.off rfl rfl rfl rfl <| Q.off rfl rfl rfl rfl <| Q.pick rfl rfl rfl <| Q.nil <| fun w4 x4 => X.next <| C.condF rfl <| C.skip <| X.outN <| X.join (t, lab, vf, found) (Sub.cons rfl <| Sub.cons rfl <| Sub.cons rfl <| Sub.cons rfl <| Sub.cons rfl <| Sub.cons rfl <| Sub.cons rfl <| Sub.cons rfl <| Sub.cons rfl <| Sub.nil _) ⟨hF.ext x4, hL, hqf, keep (fun hd => by rw [List.getElem?_eq_getElem hjd] at hd; rw [Option.some.inj hd] at hb; simp at hb), on.kept x4, avn, afn⟩
            | true =>
            have hdj : dk[j]? = some dk[f] := by rw [List.getElem?_eq_getElem hjd]; exact congrArg some (by simpa using hb)
            refine Q.on rfl rfl (Q.mv rfl rfl ?_)
            refine Q.on rfl rfl (Q.mv rfl rfl ?_)
            refine Q.on rfl rfl (Q.mv rfl rfl ?_)
            refine Q.on rfl rfl (Q.idx (sz := 1) rfl rfl on.rd Try.underlying27 (by kernel_rfl) (by show (0 : Int) ≤ (t : Int); omega) (by show (t : Int) < (l.length : Int); omega) (by decide) rfl ?_)
            rw [e1]
            refine Q.on rfl rfl (Q.load rfl Try.underlying3 rfl (on.rd.cell ht') rfl ?_)
            rw [hj]
            refine Q.on rfl rfl (Q.idx (sz := 1) rfl rfl hF.ol.rd Try.underlying27 (by kernel_rfl) (by omega) (by omega) (by decide) rfl ?_)
            rw [e2]
            refine Q.on rfl rfl (Q.load rfl Try.underlying3 rfl (hF.ol.rd.cell hjl) rfl ?_)
            refine Q.on rfl rfl (Q.bin rfl rfl rfl rfl ?_)
            refine Q.pick rfl rfl rfl ?_
            refine Q.nil <| fun w4 x4 => X.next <| ?_
            refine C.cond' rfl (fun hc => ?_) (fun hc => ?_)
            ·
              have hF4 := hF.ext x4
              have on4 := on.kept x4
              have hlj : lab[j] < 0 := hc
              have hnew : j ∉ found := fun hm => by
                have := hL.lab j
                rw [if_pos hm, List.getElem?_eq_getElem hjl, List.getElem?_eq_getElem (by omega)] at this
                have h9 : lab[j] = num := by simpa using this
                omega
              refine C.seq <| C.region <| E.mv rfl rfl <| E.mv rfl rfl <| E.mv rfl rfl <| ?_
              refine E.get (k := t) rfl rfl on4.rd rfl ht' Try.underlying27 (by kernel_rfl) Try.underlying3 rfl rfl rfl ?_
              rw [hj]
              refine E.mv rfl rfl <| ?_
              refine E.idx (sz := 1) rfl rfl hF4.ol.rd Try.underlying27 (by kernel_rfl) (by omega) (by omega) (by decide) rfl ?_
              rw [e2]
              refine E.store rfl rfl (by kernel_rfl) rfl (hF4.ol.cellAt hjl).1 (hF4.ol.cellAt hjl).2.1 ?_
              have hF5 := hF4.setL hjl num
              have g5 : w4.grownBy (w4.setCell (el vl j) (i64 num)) vl.ownBlock := by rw [(hF4.ol.cellAt hjl).2.2]; exact grown_set _ _ _
              have on5 : OwnL i64 (w4.setCell (el vl j) (i64 num)) w.heap.size 3 vn l := Own.apart on4 g5 avn
              have hif : i < found.length := (List.getElem?_eq_some_iff.1 hqf).1
              refine E.nil <| X.next <| C.region <| E.mv rfl rfl <| E.mv rfl rfl <| E.mv rfl rfl <| ?_
              refine E.get (k := t) rfl rfl on5.rd rfl ht' Try.underlying27 (by kernel_rfl) Try.underlying3 rfl rfl rfl ?_
              rw [hj]
              refine E.pushL (enc := px) j rfl rfl Try.underlying27 elem_Tint hF5.of rfl (by omega) (by omega) (by obtain ⟨_, _, _, h4, _⟩ := hF5.gr; exact h4) (by simp) rfl rfl ?_
              intro vf' w6 of6 g6 l6
              have hF6 := hF5.push g6 of6 l6
              have on6 : OwnL i64 w6 w.heap.size 3 vn l := Own.apart on5 g6 afn
              refine E.asg rfl rfl <| E.nil <| X.outN <| X.join (t, lab.set j num, vf', found ++ [j]) (Sub.cons rfl <| Sub.cons rfl <| Sub.cons rfl <| Sub.cons rfl <| Sub.cons rfl <| Sub.cons rfl <| Sub.cons rfl <| Sub.cons rfl <| Sub.cons rfl <| Sub.nil _) ⟨hF6, hL.push (by omega) hqm hdj hnbq hnew (by omega), by simp only; rw [List.getElem?_append_left hif]; exact hqf, fun u b hu hb hd => ?_, on6, avn, afn.grow l6 on5⟩
              by_cases e : u = t
              · subst e
                rw [List.getElem?_eq_getElem ht', hj] at hb
                have : j = b := by have := Option.some.inj hb; omega
                subst this; simp
              · exact List.mem_append.2 (.inl (hdone u b (by omega) hb hd))
            ·
              refine C.skip <| X.outN <| X.join (t, lab, vf, found) (Sub.cons rfl <| Sub.cons rfl <| Sub.cons rfl <| Sub.cons rfl <| Sub.cons rfl <| Sub.cons rfl <| Sub.cons rfl <| Sub.cons rfl <| Sub.cons rfl <| Sub.nil _) ⟨hF.ext x4, hL, hqf, keep (fun _ => ?_), on.kept x4, avn, afn⟩
              refine Decidable.byContradiction fun hm => hc ?_
              have hlab := hL.lab j
              rw [if_neg hm, List.getElem?_eq_getElem hjl] at hlab
              obtain ⟨z, hz, hz0⟩ := hcls j hdj ((hL.ins q hqm).2.trans (nb_joined (by omega) (hL.ins q hqm).1 hdj hnbq))
              rw [hz] at hlab
              have h9 : lab[j] = z := Option.some.inj hlab
              show lab[j] < 0
              omega
          ·
            rintro g wg ⟨hF1, hL1, hq1, hd1, on1, av1, af1⟩
            refine C.region <| E.mv rfl rfl <| ?_
            refine E.add rfl rfl (by omega) rfl ?_
            refine E.asg rfl rfl <| E.nil <| X.again (t + 1, g.2.1, g.2.2.1, g.2.2.2) (Sub.cons rfl <| Sub.cons rfl <| Sub.cons rfl <| Sub.cons rfl <| Sub.cons rfl <| Sub.cons rfl <| Sub.cons rfl <| Sub.cons rfl <| Sub.cons rfl <| Sub.nil _) ⟨by simp only; omega, hF1, hL1, hq1, hd1, on1, av1, af1⟩ (by simp only; omega)
        ·
          obtain rfl : t = l.length := by have hc' : ¬ (t : Int) < (l.length : Int) := hc; omega
          have hif : i < found.length := (List.getElem?_eq_some_iff.1 hqf).1
          have hfle := hL.le
          refine C.exit <| X.exitT <| X.exitT <| X.outE <| X.outN <| X.next <| C.region <| E.mv rfl rfl <| ?_
          refine E.add rfl rfl (by omega) rfl ?_
          refine E.asg rfl rfl <| E.nil <| X.again (i + 1, lab, vf, found) (Sub.cons rfl <| Sub.cons rfl <| Sub.cons rfl <| Sub.cons rfl <| Sub.cons rfl <| Sub.cons rfl <| Sub.cons rfl <| Sub.nil _) ⟨by simp only; omega, hF, hL.next hqf (fun j hj hq' => by
            obtain ⟨u, hu, hul⟩ := List.mem_iff_getElem.1 ((hnb j).2 hq')
            exact hdone u j hu (by rw [List.getElem?_eq_getElem hu, hul]) hj)⟩ (by simp only; omega)
    ·
      refine C.exit <| X.exitT <| X.exitT <| X.outE <| X.next <| C.seq <| C.region <| E.mv rfl rfl <| E.mv rfl rfl <| E.asg rfl rfl <| E.asg rfl rfl <| E.nil <| X.next <| C.ret <| ret2 rfl rfl rfl ?_
      obtain rfl : i = found.length := by have hc' : ¬ (i : Int) < (found.length : Int) := hc; omega
      exact ⟨vf, lab, found, rfl, hF.ol, by rw [hbm]; exact hF.of, hL, hF.gr⟩
end Go.Proofs.Ytnnmebpahickhaa
