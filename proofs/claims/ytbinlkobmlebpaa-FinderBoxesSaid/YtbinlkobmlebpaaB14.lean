/- Texts of the claim, laid together: Spread, Sets. -/
import Derived.Test.YtbinlkobmlebpaaB12
import Derived.Test.YtbinlkobmlebpaaB13
set_option linter.unusedSimpArgs false
set_option linter.unusedVariables false
namespace Go.Proofs.Ytbinlkobmlebpaa
open Go.RowKit Sym Uf
theorem nrs_nb {W H p : Nat} {eight : Bool} {l : List Int} (h : Nrs (W : Int) (H : Int) eight ((p : Int) % (W : Int)) ((p : Int) / (W : Int)) (-1) 2 l) : (∀ j : Nat, (j : Int) ∈ l ↔ Nb W H eight p j) ∧ ∀ z ∈ l, ∃ j : Nat, z = (j : Int) ∧ j < W * H := by
  have e1 : (p : Int) % (W : Int) = ((p % W : Nat) : Int) := rfl
  have e2 : (p : Int) / (W : Int) = ((p / W : Nat) : Int) := rfl
  rw [e1, e2] at h
  constructor
  · intro j
    rw [h (j : Int)]
    constructor
    · rintro ⟨a, b, h1, h2, h3, h4, _, h6, h7⟩; exact ⟨a, b, h1, h2, h3, h4, h6, h7⟩
    · rintro ⟨a, b, h1, h2, h3, h4, h6, h7⟩; exact ⟨a, b, h1, h2, h3, h4, by omega, h6, h7⟩
  · intro z hz
    obtain ⟨a, b, h1, h2, h3, h4, _, ⟨h5, h6, h7, h8, h9⟩, h10⟩ := (h z).1 hz
    obtain ⟨x, hx⟩ : ∃ x : Nat, ((p % W : Nat) : Int) + a = x := ⟨(((p % W : Nat) : Int) + a).toNat, (Int.toNat_of_nonneg h6).symm⟩
    obtain ⟨y, hy⟩ : ∃ y : Nat, ((p / W : Nat) : Int) + b = y := ⟨(((p / W : Nat) : Int) + b).toNat, (Int.toNat_of_nonneg h8).symm⟩
    rw [hy, Int.add_assoc, hx] at h10
    rw [hx] at h7; rw [hy] at h9
    refine ⟨y * W + x, by rw [h10]; simp, ?_⟩
    have hy' : y + 1 ≤ H := by omega
    have := Nat.mul_le_mul_right W hy'
    rw [Nat.succ_mul] at this
    rw [Nat.mul_comm W H]; omega
set_option maxHeartbeats 2000000 in
theorem spread_ret (W H : Nat) (vd : Value) (dk : List Bool) (vl : Value) (lab0 : List Int) (f : Nat) (num : Int) (eight : Bool) (B0 : Nat) (w : World) (hW : 1 ≤ W ∧ W ≤ 4096) (hH : 1 ≤ H ∧ H ≤ 4096) (hn : dk.length = W * H) (hn0 : dk.length ≤ 4194304) (hrd : RdL Value.bool w vd dk) (hol : OwnL i64 w B0 3 vl lab0) (hnv : vl.ownBlock ≠ some (bs vd).1) (hll : lab0.length = dk.length) (hf : f < dk.length) (hnum : 0 ≤ num) (hcls : ∀ j : Nat, dk[j]? = some dk[f] → Cl (Ed W eight dk dk[f] dk.length) f j → ∃ z, lab0[j]? = some z ∧ z < 0) :
    Ret Try.prog 92 #[mat W H vd, vl, px f, i64 num, .bool eight] w fun v w' => ∃ vf lab found, v = .tuple #[vl, vf] ∧ OwnL i64 w' B0 3 vl lab ∧ OwnL px w' w.heap.size 3 vf found ∧ Fl W H eight dk dk[f] f num lab0 lab found found.length ∧ w.grownBy w' vl.ownBlock := by
  refine enter Try.func92 rfl (by kernel_rfl) Try.ntmps92 rfl ?_
  refine C.seq <| C.region <| ?_
  refine E.boxB (cs := [i64 W, i64 H, vd]) rfl rfl rfl ?_
  intro w1 b1 x1 z1
  obtain ⟨bm, hbm⟩ : ∃ bm, bm = w.heap.size := ⟨_, rfl⟩
  rw [← hbm] at b1 ⊢
  have nl : vl.ownBlock ≠ some bm := fun e => by have := (World.ownsRow.lt hol _ e).2; omega
  refine E.asg rfl rfl <| E.asg rfl rfl <| E.nil <| X.next <| C.seq <| C.region <| ?_
  refine E.fld (o := 2) (sz := 0) rfl Try.underlying37 rfl rfl (by kernel_rfl) rfl ?_
  refine E.load rfl Try.underlying35 rfl (b1.cell 2) rfl ?_
  refine E.mv rfl rfl <| ?_
  refine E.get (k := f) rfl rfl (hrd.ext x1) rfl hf Try.underlying35 (by kernel_rfl) Try.underlying4 rfl rfl rfl ?_
  refine E.asg rfl rfl <| E.nil <| X.next <| C.seq <| C.region <| E.mv rfl rfl <| E.mv rfl rfl <| E.mv rfl rfl <| ?_
  refine E.idx (sz := 1) rfl rfl (hol.kept x1).rd Try.underlying45 (by kernel_rfl) (by omega) (by omega) (by decide) rfl ?_
  rw [show (f : Int).toNat * 1 = f from by omega]
  have hfl : f < lab0.length := by omega
  refine E.store rfl rfl (by kernel_rfl) rfl ((hol.kept x1).cellAt hfl).1 ((hol.kept x1).cellAt hfl).2.1 ?_
  refine E.nil <| X.next <| C.seq <| C.region <| E.mv rfl rfl <| ?_
  refine E.mk1 (enc := px) f rfl Try.underlying45 elem_Tint rfl w.heap.size (by simp; omega) rfl ?_
  intro vf w2 of2 x2 nf2
  have hF0 : FW w w2 B0 bm vl vf vd W H dk (lab0.set f num) [f] := by
    have g1 := grown_set w1 (el vl f) (i64 num)
    rw [← ((hol.kept x1).cellAt hfl).2.2] at g1
    have hvd : (bs vd).1 < w.heap.size := World.block_lt_of_cell? w _ (hrd.cell hf)
    have hq := x1.size
    refine { ol := ((hol.kept x1).set hfl num).kept x2, of := of2, hm := (Blk.apart b1 g1 nl).ext x2, rd := (Rd.grown (hrd.ext x1) g1 (.inr fun e => hnv e.symm)).ext x2, rb := .inr ⟨hnv, hvd⟩, ap := fun g h1 h2 => ?_, nl := nl, nf := fun e => ?_, gr := grown_trans (grown_trans (x1.toGrown _) g1) (x2.toGrown _) }
    · rw [nf2] at h2; have h4 := Option.some.inj h2; have h3 := (World.ownsRow.lt hol _ h1).2; simp at h4; omega
    · rw [nf2] at e; have := Option.some.inj e; simp at this; omega
  have hL0 : Fl W H eight dk dk[f] f num lab0 (lab0.set f num) [f] 0 := Fl.start (List.getElem?_eq_getElem hf) hfl
  refine E.asg rfl rfl <| E.nil <| X.next <| C.seq <| C.seq <| C.region <| E.asg rfl rfl <| E.nil <| X.next <| C.block <| ?_

  refine C.loop (G := Nat × List Int × Value × List Nat) (fun g => [(1, vl), (3, i64 num), (4, .bool eight), (5, pv bm), (12, .bool dk[f]), (13, g.2.2.1), (14, i64 (g.1 : Nat))]) (fun g w' => g.1 ≤ g.2.2.2.length ∧ FW w w' B0 bm vl g.2.2.1 vd W H dk g.2.1 g.2.2.2 ∧ Fl W H eight dk dk[f] f num lab0 g.2.1 g.2.2.2 g.1) (fun g => dk.length - g.1) (0, lab0.set f num, vf, [f]) ?_ ?_ ?_
  · exact Sub.cons rfl <| Sub.cons rfl <| Sub.cons rfl <| Sub.cons rfl <| Sub.cons rfl <| Sub.cons rfl <| Sub.cons rfl <| Sub.nil _
  · exact ⟨Nat.zero_le _, hF0, hL0⟩
  · clear hF0 hL0
    rintro ⟨i, lab, vf, found⟩ wk ⟨hi, hF, hL⟩
    simp only at hi hF hL
    refine C.seq <| C.seq <| C.region <| E.mv rfl rfl <| E.mv rfl rfl <| ?_
    refine E.len rfl hF.of.rd Try.underlying45 rfl ?_
    refine E.bin rfl rfl rfl rfl <| E.nil <| X.next <| ?_
    refine C.cond' rfl (fun hc => ?_) (fun hc => ?_)
    ·

      have hi' : i < found.length := by have hc' : (i : Int) < (found.length : Int) := hc; omega
      obtain ⟨q, hq⟩ : ∃ q, found[i] = q := ⟨_, rfl⟩
      have hqf : found[i]? = some q := by rw [List.getElem?_eq_getElem hi', hq]
      have hqm : q ∈ found := List.mem_of_getElem? hqf
      have hqd := (hL.ins q hqm).1
      have hql := (List.getElem?_eq_some_iff.1 hqd).1
      have hfle := hL.le
      refine C.skip <| X.next <| C.seq <| C.block <| C.seq <| C.drawnT 6 (by kernel_rfl) (by kernel_rfl) fun wh hwh => ?_
      have hFh := hF.ext hwh
      refine S.loadA rfl Try.underlying37 rfl (by kernel_rfl) (hFh.hm.at 0 [i64 W, i64 H, vd] (fun j u h => by simpa using h)) rfl ?_
      refine S.mv rfl rfl ?_
      refine S.mv rfl rfl ?_
      refine S.idx (sz := 1) rfl rfl hFh.of.rd Try.underlying45 (by kernel_rfl) (by show (0 : Int) ≤ (i : Int); omega) (by show (i : Int) < (found.length : Int); omega) (by decide) rfl ?_
      rw [show (i : Int).toNat * 1 = i from by omega]
      refine S.load rfl Try.underlying3 rfl (hFh.of.cellAt hi').1 rfl ?_
      rw [hq]
      refine S.mv rfl rfl ?_
      refine S.nil ?_
      refine E.call rfl rfl (near_ret (W : Int) (H : Int) (q : Int) vd eight _ (by omega) (by omega) (by omega)) ?_
      rintro vn w3 ⟨l, on3, hN, hl9, x3⟩
      obtain ⟨hnb, hnz⟩ := nrs_nb hN
      have hF3 := hFh.ext x3
      have avn : Apart vl vn := fun g h1 h2 => by have h3 := (World.ownsRow.lt hFh.ol g h1).2; have h4 := (World.ownsRow.lt on3 g h2).1; omega
      have afn : Apart vf vn := fun g h1 h2 => by have h3 := (World.ownsRow.lt hFh.of g h1).2; have h4 := (World.ownsRow.lt on3 g h2).1; omega
      have on3 : OwnL i64 w3 w.heap.size 3 vn l := Own.lower on3 (by obtain ⟨_, _, _, h4, _⟩ := hFh.gr; exact h4)
      refine E.asg rfl rfl ?_
      refine E.nil <| X.next <| C.seq <| C.region <| E.asg rfl rfl <| E.nil <| X.next <| C.block <| ?_

      refine C.loop (G := Nat × List Int × Value × List Nat) (fun g => [(1, vl), (3, i64 num), (4, .bool eight), (5, pv bm), (12, .bool dk[f]), (13, g.2.2.1), (14, i64 (i : Nat)), (15, vn), (16, i64 (g.1 : Nat))]) (fun g w' => g.1 ≤ l.length ∧ FW w w' B0 bm vl g.2.2.1 vd W H dk g.2.1 g.2.2.2 ∧ Fl W H eight dk dk[f] f num lab0 g.2.1 g.2.2.2 i ∧ g.2.2.2[i]? = some q ∧ (∀ u j : Nat, u < g.1 → l[u]? = some (j : Int) → dk[j]? = some dk[f] → j ∈ g.2.2.2) ∧ OwnL i64 w' w.heap.size 3 vn l ∧ Apart vl vn ∧ Apart g.2.2.1 vn) (fun g => l.length - g.1) (0, lab, vf, found) ?_ ?_ ?_
      · exact Sub.cons rfl <| Sub.cons rfl <| Sub.cons rfl <| Sub.cons rfl <| Sub.cons rfl <| Sub.cons rfl <| Sub.cons rfl <| Sub.cons rfl <| Sub.cons rfl <| Sub.nil _
      · exact ⟨Nat.zero_le _, hF3, hL, hqf, fun u j hu => by omega, on3, avn, afn⟩
      · clear hF3 hFh hF hL on3 hqf hqm hi' hi hc hfle hq
        rintro ⟨t, lab, vf, found⟩ wt ⟨ht, hF, hL, hqf, hdone, on, avn, afn⟩
        simp only at ht hF hL hqf hdone on avn afn
        refine C.seq <| C.seq <| C.region <| E.mv rfl rfl <| E.mv rfl rfl <| ?_
        refine E.len rfl on.rd Try.underlying45 rfl ?_
        refine E.bin rfl rfl rfl rfl <| E.nil <| X.next <| ?_
        refine C.cond' rfl (fun hc => ?_) (fun hc => ?_)
        ·
          have ht' : t < l.length := by have hc' : (t : Int) < (l.length : Int) := hc; omega
          obtain ⟨j, hj, hjn⟩ := hnz _ (List.getElem_mem ht')
          have hjd : j < dk.length := by omega
          have hjl : j < lab.length := by rw [hL.len]; omega
          have hnbq : Nb W H eight q j := (hnb j).1 (hj ▸ List.getElem_mem ht')
          have hqm : q ∈ found := List.mem_of_getElem? hqf
          have hfle := hL.le
          have e1 : (t : Int).toNat * 1 = t := by omega
          have e2 : (j : Int).toNat * 1 = j := by omega
          refine C.skip <| X.next <| ?_

          refine C.cut (G := Nat × List Int × Value × List Nat) (fun g => [(1, vl), (3, i64 num), (4, .bool eight), (5, pv bm), (12, .bool dk[f]), (13, g.2.2.1), (14, i64 (i : Nat)), (15, vn), (16, i64 (t : Nat))]) (fun g w' => FW w w' B0 bm vl g.2.2.1 vd W H dk g.2.1 g.2.2.2 ∧ Fl W H eight dk dk[f] f num lab0 g.2.1 g.2.2.2 i ∧ g.2.2.2[i]? = some q ∧ (∀ u j : Nat, u < t + 1 → l[u]? = some (j : Int) → dk[j]? = some dk[f] → j ∈ g.2.2.2) ∧ OwnL i64 w' w.heap.size 3 vn l ∧ Apart vl vn ∧ Apart g.2.2.1 vn) ?_ ?_
          ·

            refine C.block <| C.seq <| C.drawn (by kernel_rfl) (by kernel_rfl) <| ?_
            refine Q.fld (o := 2) (sz := 0) rfl Try.underlying37 rfl rfl (by kernel_rfl) rfl ?_
            refine Q.load rfl Try.underlying35 rfl (hF.hm.cell 2) rfl ?_
            refine Q.mv rfl rfl ?_
            refine Q.mv rfl rfl ?_
            refine Q.idx (sz := 1) rfl rfl on.rd Try.underlying45 (by kernel_rfl) (by show (0 : Int) ≤ (t : Int); omega) (by show (t : Int) < (l.length : Int); omega) (by decide) rfl ?_
            rw [e1]
            refine Q.load rfl Try.underlying3 rfl (on.rd.cell ht') rfl ?_
            rw [hj]
            refine Q.idx (sz := 1) rfl rfl hF.rd Try.underlying35 (by kernel_rfl) (by omega) (by omega) (by decide) rfl ?_
            rw [e2]
            refine Q.load rfl Try.underlying4 rfl (hF.rd.cell hjd) rfl ?_
            refine Q.mv rfl rfl ?_
            refine Q.eqb rfl rfl Try.underlying4 rfl ?_
            refine Q.mv rfl rfl ?_
            have keep : (dk[j]? = some dk[f] → j ∈ found) → ∀ u b : Nat, u < t + 1 → l[u]? = some (b : Int) → dk[b]? = some dk[f] → b ∈ found := fun hk u b hu hb hd => by
              by_cases e : u = t
              · subst e
                rw [List.getElem?_eq_getElem ht', hj] at hb
                have : j = b := by have := Option.some.inj hb; omega
                subst this; exact hk hd
              · exact hdone u b (by omega) hb hd
            cases hb : (dk[j] == dk[f]) with
            | false =>
              refine Q.off rfl rfl rfl rfl <| Q.off rfl rfl rfl rfl <| Q.off rfl rfl rfl rfl <| Q.off rfl rfl rfl rfl <| Q.off rfl rfl rfl rfl <| Q.off rfl rfl rfl rfl <| Q.off rfl rfl rfl rfl <| Q.off rfl rfl rfl rfl <| Q.pick rfl rfl rfl <| Q.nil <| fun w4 x4 => X.next <| C.condF rfl <| C.skip <| X.outN <| X.join (t, lab, vf, found) (Sub.cons rfl <| Sub.cons rfl <| Sub.cons rfl <| Sub.cons rfl <| Sub.cons rfl <| Sub.cons rfl <| Sub.cons rfl <| Sub.cons rfl <| Sub.cons rfl <| Sub.nil _) ⟨hF.ext x4, hL, hqf, keep (fun hd => by rw [List.getElem?_eq_getElem hjd] at hd; rw [Option.some.inj hd] at hb; simp at hb), on.kept x4, avn, afn⟩
            | true =>
            have hdj : dk[j]? = some dk[f] := by rw [List.getElem?_eq_getElem hjd]; exact congrArg some (by simpa using hb)
            refine Q.on rfl rfl (Q.mv rfl rfl ?_)
            refine Q.on rfl rfl (Q.mv rfl rfl ?_)
            refine Q.on rfl rfl (Q.mv rfl rfl ?_)
            refine Q.on rfl rfl (Q.idx (sz := 1) rfl rfl on.rd Try.underlying45 (by kernel_rfl) (by show (0 : Int) ≤ (t : Int); omega) (by show (t : Int) < (l.length : Int); omega) (by decide) rfl ?_)
            rw [e1]
            refine Q.on rfl rfl (Q.load rfl Try.underlying3 rfl (on.rd.cell ht') rfl ?_)
            rw [hj]
            refine Q.on rfl rfl (Q.idx (sz := 1) rfl rfl hF.ol.rd Try.underlying45 (by kernel_rfl) (by omega) (by omega) (by decide) rfl ?_)
            rw [e2]
            refine Q.on rfl rfl (Q.load rfl Try.underlying3 rfl (hF.ol.rd.cell hjl) rfl ?_)
            refine Q.on rfl rfl (Q.bin rfl rfl rfl rfl ?_)
            refine Q.pick rfl rfl rfl ?_
            refine Q.nil <| fun w4 x4 => X.next <| ?_
            refine C.cond' rfl (fun hc => ?_) (fun hc => ?_)
            ·
              have hF4 := hF.ext x4
              have on4 := on.kept x4
              have hlj : lab[j] < 0 := hc
              have hnew : j ∉ found := fun hm => by
                have := hL.lab j
                rw [if_pos hm, List.getElem?_eq_getElem hjl, List.getElem?_eq_getElem (by omega)] at this
                have h9 : lab[j] = num := by simpa using this
                omega
              refine C.seq <| C.region <| E.mv rfl rfl <| E.mv rfl rfl <| E.mv rfl rfl <| ?_
              refine E.get (k := t) rfl rfl on4.rd rfl ht' Try.underlying45 (by kernel_rfl) Try.underlying3 rfl rfl rfl ?_
              rw [hj]
              refine E.mv rfl rfl <| ?_
              refine E.idx (sz := 1) rfl rfl hF4.ol.rd Try.underlying45 (by kernel_rfl) (by omega) (by omega) (by decide) rfl ?_
              rw [e2]
              refine E.store rfl rfl (by kernel_rfl) rfl (hF4.ol.cellAt hjl).1 (hF4.ol.cellAt hjl).2.1 ?_
              have hF5 := hF4.setL hjl num
              have g5 : w4.grownBy (w4.setCell (el vl j) (i64 num)) vl.ownBlock := by rw [(hF4.ol.cellAt hjl).2.2]; exact grown_set _ _ _
              have on5 : OwnL i64 (w4.setCell (el vl j) (i64 num)) w.heap.size 3 vn l := Own.apart on4 g5 avn
              have hif : i < found.length := (List.getElem?_eq_some_iff.1 hqf).1
              refine E.nil <| X.next <| C.region <| E.mv rfl rfl <| E.mv rfl rfl <| E.mv rfl rfl <| ?_
              refine E.get (k := t) rfl rfl on5.rd rfl ht' Try.underlying45 (by kernel_rfl) Try.underlying3 rfl rfl rfl ?_
              rw [hj]
              refine E.pushL (enc := px) j rfl rfl Try.underlying45 elem_Tint hF5.of rfl (by omega) (by omega) (by obtain ⟨_, _, _, h4, _⟩ := hF5.gr; exact h4) (by simp) rfl rfl ?_
              intro vf' w6 of6 g6 l6
              have hF6 := hF5.push g6 of6 l6
              have on6 : OwnL i64 w6 w.heap.size 3 vn l := Own.apart on5 g6 afn
              refine E.asg rfl rfl <| E.nil <| X.outN <| X.join (t, lab.set j num, vf', found ++ [j]) (Sub.cons rfl <| Sub.cons rfl <| Sub.cons rfl <| Sub.cons rfl <| Sub.cons rfl <| Sub.cons rfl <| Sub.cons rfl <| Sub.cons rfl <| Sub.cons rfl <| Sub.nil _) ⟨hF6, hL.push (by omega) hqm hdj hnbq hnew (by omega), by simp only; rw [List.getElem?_append_left hif]; exact hqf, fun u b hu hb hd => ?_, on6, avn, afn.grow l6 on5⟩
              by_cases e : u = t
              · subst e
                rw [List.getElem?_eq_getElem ht', hj] at hb
                have : j = b := by have := Option.some.inj hb; omega
                subst this; simp
              · exact List.mem_append.2 (.inl (hdone u b (by omega) hb hd))
            ·
              refine C.skip <| X.outN <| X.join (t, lab, vf, found) (Sub.cons rfl <| Sub.cons rfl <| Sub.cons rfl <| Sub.cons rfl <| Sub.cons rfl <| Sub.cons rfl <| Sub.cons rfl <| Sub.cons rfl <| Sub.cons rfl <| Sub.nil _) ⟨hF.ext x4, hL, hqf, keep (fun _ => ?_), on.kept x4, avn, afn⟩
              refine Decidable.byContradiction fun hm => hc ?_
              have hlab := hL.lab j
              rw [if_neg hm, List.getElem?_eq_getElem hjl] at hlab
              obtain ⟨z, hz, hz0⟩ := hcls j hdj ((hL.ins q hqm).2.trans (nb_joined (by omega) (hL.ins q hqm).1 hdj hnbq))
              rw [hz] at hlab
              have h9 : lab[j] = z := Option.some.inj hlab
              show lab[j] < 0
              omega
          ·
            rintro g wg ⟨hF1, hL1, hq1, hd1, on1, av1, af1⟩
            refine C.region <| E.mv rfl rfl <| ?_
            refine E.add rfl rfl (by omega) rfl ?_
            refine E.asg rfl rfl <| E.nil <| X.again (t + 1, g.2.1, g.2.2.1, g.2.2.2) (Sub.cons rfl <| Sub.cons rfl <| Sub.cons rfl <| Sub.cons rfl <| Sub.cons rfl <| Sub.cons rfl <| Sub.cons rfl <| Sub.cons rfl <| Sub.cons rfl <| Sub.nil _) ⟨by simp only; omega, hF1, hL1, hq1, hd1, on1, av1, af1⟩ (by simp only; omega)
        ·
          obtain rfl : t = l.length := by have hc' : ¬ (t : Int) < (l.length : Int) := hc; omega
          have hif : i < found.length := (List.getElem?_eq_some_iff.1 hqf).1
          have hfle := hL.le
          refine C.exit <| X.exitT <| X.exitT <| X.outE <| X.outN <| X.next <| C.region <| E.mv rfl rfl <| ?_
          refine E.add rfl rfl (by omega) rfl ?_
          refine E.asg rfl rfl <| E.nil <| X.again (i + 1, lab, vf, found) (Sub.cons rfl <| Sub.cons rfl <| Sub.cons rfl <| Sub.cons rfl <| Sub.cons rfl <| Sub.cons rfl <| Sub.cons rfl <| Sub.nil _) ⟨by simp only; omega, hF, hL.next hqf (fun j hj hq' => by
            obtain ⟨u, hu, hul⟩ := List.mem_iff_getElem.1 ((hnb j).2 hq')
            exact hdone u j hu (by rw [List.getElem?_eq_getElem hu, hul]) hj)⟩ (by simp only; omega)
    ·
      refine C.exit <| X.exitT <| X.exitT <| X.outE <| X.next <| C.seq <| C.region <| E.mv rfl rfl <| E.mv rfl rfl <| E.asg rfl rfl <| E.asg rfl rfl <| E.nil <| X.next <| C.ret <| ret2 rfl rfl rfl ?_
      obtain rfl : i = found.length := by have hc' : ¬ (i : Int) < (found.length : Int) := hc; omega
      exact ⟨vf, lab, found, rfl, hF.ol, by rw [hbm]; exact hF.of, hL, hF.gr⟩
end Go.Proofs.Ytbinlkobmlebpaa
namespace Go.Proofs.Ytbinlkobmlebpaa
open Go.RowKit Sym Uf
structure SInv (w w' : World) (c : SV) (n W : Nat) (eight : Bool) (k : Nat) (par siz : List Int) : Prop where
 sw : SW w' w.heap.size c par siz
 pl : par.length = n
 zl : siz.length = n
 ext : Ext w w'
 says : Says par (Dm c.dk c.dark k) (Ed W eight c.dk c.dark k)
 light : ∀ i : Nat, i < k → c.dk[i]? ≠ some c.dark → par[i]? = some (-1)
structure RInv (w w' : World) (c : SV) (n W : Nat) (eight : Bool) (k : Nat) (par siz : List Int) : Prop where
 sw : SW w' w.heap.size c par siz
 pl : par.length = n
 ext : Ext w w'
 says : Says par (Dm c.dk c.dark n) (Ed W eight c.dk c.dark n)
 light : ∀ i : Nat, i < n → c.dk[i]? ≠ some c.dark → par[i]? = some (-1)
 done : ∀ i : Nat, i < k → c.dk[i]? = some c.dark → ∃ r : Nat, par[i]? = some (r : Int) ∧ Root par i r
theorem parted {w w' : World} {c : SV} {n W : Nat} {eight : Bool} {par siz : List Int} (h : RInv w w' c n W eight n par siz) (hn : c.dk.length = n) : Parted W eight c.dk c.dark par := by
  have hlt : ∀ i : Nat, ∀ b, c.dk[i]? = some b → i < n := fun i b hb => by have := (List.getElem?_eq_some_iff.1 hb).1; omega
  refine ⟨by rw [h.pl, hn], fun i hi => ?_, fun i hi => ?_, fun i j z hi hj hz => ?_⟩
  · exact h.light i (hlt i _ hi) (by rw [hi]; intro e; have := Option.some.inj e; cases hd : c.dark <;> simp [hd] at this)
  · obtain ⟨r, h1, h2⟩ := h.done i (hlt i _ hi) hi
    obtain ⟨s, h3, h4⟩ := h.says.root i ⟨hlt i _ hi, hi⟩
    have := h4.det h2; subst this
    exact ⟨s, h3.2, h1⟩
  · obtain ⟨r, h1, h2⟩ := h.done i (hlt i _ hi) hi
    obtain ⟨s, h3, h4⟩ := h.done j (hlt j _ hj) hj
    rw [h1] at hz
    have hz' := (Option.some.inj hz).symm
    rw [h3, hn, ← h.says.same i j r s ⟨hlt i _ hi, hi⟩ ⟨hlt j _ hj, hj⟩ h2 h4]
    constructor
    · intro e; have := Option.some.inj e; omega
    · rintro rfl; rw [hz']
set_option maxHeartbeats 2000000 in
theorem sets_ret (W Ht : Nat) (vd : Value) (dk : List Bool) (dark eight : Bool) (w : World) (hrd : RdL Value.bool w vd dk) (hW : 0 < W) (hWn : W ≤ 4194304) (hl : dk.length ≤ 4194304) :
    Ret Try.prog 64 #[.agg #[i64 W, i64 Ht, vd], .bool dark, .bool eight] w fun v w' => ∃ s, OwnL i32 w' w.heap.size 21 v s ∧ Parted W eight dk dark s ∧ Ext w w' := by
  obtain ⟨n, hn⟩ : ∃ n, dk.length = n := ⟨_, rfl⟩
  refine enter Try.func64 rfl (by kernel_rfl) Try.ntmps64 rfl ?_
  refine C.seq <| C.region <| ?_
  refine E.boxB (cs := [i64 W, i64 Ht, vd]) rfl rfl rfl ?_
  intro w1 b1 x1 z1
  refine E.boxB (cs := [.bool dark]) rfl rfl rfl ?_
  intro w2 b2 x2 z2
  have y2 := x1.trans x2
  refine E.asg rfl rfl <| E.nil <| X.next <| C.seq <| C.region <| ?_
  refine E.fld (o := 2) (sz := 0) rfl Try.underlying37 rfl rfl (by kernel_rfl) rfl ?_
  refine E.load rfl Try.underlying35 rfl ((b1.ext x2).cell 2) rfl ?_
  refine E.len rfl (hrd.ext y2) Try.underlying35 rfl ?_
  rw [hn]
  refine E.make (enc := i32) (by_ := 4) (0 : Int) rfl Try.underlying107 (by kernel_rfl) rfl (by omega) (by omega) w.heap.size (by omega) rfl ?_
  intro vp w3 op3 x3 np3 z3
  have y3 := y2.trans x3
  refine E.varB (z := .slice none 0 0) (by kernel_rfl) rfl rfl rfl (by kernel_rfl) (by obtain ⟨_, _, rfl⟩ := op3.rd.shape; rfl) ?_
  intro w4 b4 x4 z4
  have y4 := y3.trans x4
  refine E.nil <| X.next <| C.seq <| C.region <| ?_
  refine E.fld (o := 2) (sz := 0) rfl Try.underlying37 rfl rfl (by kernel_rfl) rfl ?_
  refine E.load rfl Try.underlying35 rfl ((b1.ext (x2.trans (x3.trans x4))).cell 2) rfl ?_
  refine E.len rfl (hrd.ext y4) Try.underlying35 rfl ?_
  rw [hn]
  refine E.make (enc := i32) (by_ := 4) (0 : Int) rfl Try.underlying107 (by kernel_rfl) rfl (by omega) (by omega) w.heap.size (by omega) rfl ?_
  intro vz w5 oz5 x5 nz5 z5
  refine E.varB (z := .slice none 0 0) (by kernel_rfl) rfl rfl rfl (by kernel_rfl) (by obtain ⟨_, _, rfl⟩ := oz5.rd.shape; rfl) ?_
  intro w6 b6 x6 z6
  refine E.nil <| X.next <| C.seq <| C.region <| ?_
  refine E.allocB (z := .nilFunc) (cs := [.nilFunc]) (by kernel_rfl) rfl rfl ?_
  intro w7 b7 x7 z7
  refine E.nil <| X.next <| C.seq <| C.region <| ?_
  refine E.mkfn rfl rfl ?_
  refine E.storeB rfl rfl (by kernel_rfl) rfl b7 ?_
  intro w8 b8 g8 z8
  have x8 : Ext w6 w8 := x7.ofGrown g8 (Nat.le_refl _)
  obtain ⟨c, hc⟩ : ∃ c : SV, c = ⟨w.heap.size, w1.heap.size, w3.heap.size, w6.heap.size, w5.heap.size, vp, vz, vd, (W : Int), (Ht : Int), dark, dk⟩ := ⟨_, rfl⟩
  have hdn : c.dk.length = n := by rw [hc]; exact hn
  have hsw : SW w8 w.heap.size c (List.replicate n 0) (List.replicate n 0) := by
    subst hc
    refine { u := ⟨b4.ext (x5.trans (x6.trans x8)), b8, op3.kept (x4.trans (x5.trans (x6.trans x8))), ?_, ?_⟩, hm := b1.ext (x2.trans (x3.trans (x4.trans (x5.trans (x6.trans x8))))), hd := b2.ext (x3.trans (x4.trans (x5.trans (x6.trans x8)))), hz := b6.ext x8, oz := oz5.kept (x6.trans x8), rd := hrd.ext (y4.trans (x5.trans (x6.trans x8))), rb := ?_, ap := ?_, n1 := ?_, n2 := ?_, n3 := ?_, m1 := ?_, m2 := ?_, m3 := ?_, m4 := ?_, m5 := ?_ }
    case refine_3 =>
      by_cases h0 : dk = []
      · exact .inl h0
      · exact .inr (World.block_lt_of_cell? w _ (hrd.cell (List.length_pos_iff.2 h0)))
    case refine_4 => intro g h1 h2; rw [np3] at h1; rw [nz5] at h2; have := Option.some.inj h1; have := Option.some.inj h2; omega
    all_goals (intro e; simp only [np3, nz5] at e; have := Option.some.inj e; omega)
  have hI0 : SInv w w8 c n W eight 0 (List.replicate n 0) (List.replicate n 0) := ⟨hsw, by simp, by simp, (y4.trans (x5.trans (x6.trans x8))), ⟨fun i hi => by have := hi.1; omega, fun i j hi => by have := hi.1; omega, fun i j r s hi => by have := hi.1; omega⟩, fun i hi => by omega⟩
  have hcm : pv w.heap.size = pv c.bm := by rw [hc]
  have hcd : pv w1.heap.size = pv c.bd := by rw [hc]
  have hcp : pv w3.heap.size = pv c.bp := by rw [hc]
  have hcz : pv w5.heap.size = pv c.bz := by rw [hc]
  have hcf : pv w6.heap.size = pv c.bf := by rw [hc]
  have hcv : vd = c.vd := by rw [hc]
  have hcW : c.W = (W : Int) := by rw [hc]
  have hcdk : c.dk = dk := by rw [hc]
  have hcdark : c.dark = dark := by rw [hc]
  refine E.sub (env' := [(2, .bool eight), (3, pv c.bm), (4, pv c.bd), (7, pv c.bp), (8, pv c.bz), (9, pv c.bf)]) (by
    rw [← hcm, ← hcd, ← hcp, ← hcz, ← hcf]
    exact Sub.cons rfl <| Sub.cons rfl <| Sub.cons rfl <| Sub.cons rfl <| Sub.cons rfl <| Sub.cons rfl <| Sub.nil _) ?_
  clear hsw b1 b2 b4 b6 b7 b8 g8 x1 x2 x3 x4 x5 x6 x7 x8 y2 y3 y4 op3 oz5 np3 nz5 z1 z2 z3 z4 z5 z6 z7 z8 hcm hcd hcp hcz hcf
  rw [hcv] at hrd
  clear hc
  refine E.nil <| X.next <| C.seq <| C.region <| ?_
  refine E.mkfn rfl rfl ?_
  refine E.asg rfl rfl <| E.nil <| X.next <| C.seq <| C.seq <| C.region <| ?_
  refine E.fld (o := 2) (sz := 0) rfl Try.underlying37 rfl rfl (by kernel_rfl) rfl ?_
  refine E.load rfl Try.underlying35 rfl (hI0.sw.hm.cell 2) rfl ?_
  refine E.len rfl hI0.sw.rd Try.underlying35 rfl ?_
  rw [hdn]
  refine E.mv rfl rfl <| E.nil <| X.next <| C.block <| ?_

  refine C.loop (G := Nat × List Int × List Int) (fun g => [(2, .bool eight), (3, pv c.bm), (4, pv c.bd), (7, pv c.bp), (8, pv c.bz), (9, pv c.bf), (10, fnv 89 [pv c.bm, pv c.bd, pv c.bf, pv c.bz, pv c.bp]), (27, c.vd), (28, i64 n), (29, i64 (g.1 : Nat))]) (fun g w' => g.1 ≤ n ∧ SInv w w' c n W eight g.1 g.2.1 g.2.2) (fun g => n - g.1) (0, List.replicate n 0, List.replicate n 0) ?_ ?_ ?_
  · exact Sub.cons rfl <| Sub.cons rfl <| Sub.cons rfl <| Sub.cons rfl <| Sub.cons rfl <| Sub.cons rfl <| Sub.cons rfl <| Sub.cons rfl <| Sub.cons rfl <| Sub.cons rfl <| Sub.nil _
  · exact ⟨Nat.zero_le _, hI0⟩
  · rintro ⟨k, par, siz⟩ wk ⟨hk, hI⟩
    simp only at hk hI
    refine C.seq <| C.region <| E.bin rfl rfl rfl rfl <| E.nil <| X.next <| C.seq <| ?_
    refine C.cond' rfl (fun hc => ?_) (fun hc => ?_)
    ·
      have hk' : k < n := by have hc' : (k : Int) < (n : Int) := hc; omega
      have hkd : k < c.dk.length := by omega
      refine C.skip <| X.next <| ?_

      refine C.cut (G := List Int × List Int) (fun _ => [(2, .bool eight), (3, pv c.bm), (4, pv c.bd), (7, pv c.bp), (8, pv c.bz), (9, pv c.bf), (10, fnv 89 [pv c.bm, pv c.bd, pv c.bf, pv c.bz, pv c.bp]), (27, c.vd), (28, i64 n), (29, i64 (k : Nat))]) (fun g w' => SInv w w' c n W eight (k + 1) g.1 g.2) ?_ ?_
      ·
        refine C.block <| C.seq <| C.region <| E.mv rfl rfl <| ?_
        refine E.get (k := k) rfl rfl hI.sw.rd rfl hkd Try.underlying35 (by kernel_rfl) Try.underlying4 rfl rfl rfl ?_
        refine E.asg rfl rfl <| E.asg rfl rfl <| E.nil <| X.next <| C.seq <| C.seq <| C.region <| E.mv rfl rfl <| ?_
        refine E.load rfl Try.underlying4 rfl (hI.sw.hd.cell 0) rfl ?_
        refine E.neb rfl rfl Try.underlying4 rfl <| E.nil <| X.next <| ?_
        refine C.cond rfl (fun hc => ?_) (fun hc => ?_)
        ·
          refine C.seq <| C.region <| ?_
          refine E.load rfl Try.underlying107 rfl (hI.sw.u.hp.cell 0) rfl ?_
          refine E.mv rfl rfl <| ?_
          refine E.idx (sz := 1) rfl rfl hI.sw.u.own.rd Try.underlying107 (by kernel_rfl) (by omega) (by have := hI.pl; omega) (by decide) rfl ?_
          have hkp : k < par.length := by have := hI.pl; omega
          rw [show (k : Int).toNat * 1 = k from by omega]
          refine E.store rfl rfl (by kernel_rfl) rfl (hI.sw.u.own.cellAt hkp).1 (hI.sw.u.own.cellAt hkp).2.1 ?_
          obtain ⟨s1, f1⟩ := hI.sw.setP hkp (-1)
          have hnd : c.dk[k]? ≠ some c.dark := by
            rw [List.getElem?_eq_getElem hkd]; intro e; have := Option.some.inj e; rw [this] at hc; simp at hc
          refine E.nil <| X.next <| C.exit <| X.exitT <| X.outE <| X.join (par.set k (-1), siz) (Sub.cons rfl <| Sub.cons rfl <| Sub.cons rfl <| Sub.cons rfl <| Sub.cons rfl <| Sub.cons rfl <| Sub.cons rfl <| Sub.cons rfl <| Sub.cons rfl <| Sub.cons rfl <| Sub.nil _) ⟨s1, by rw [List.length_set]; exact hI.pl, hI.zl, f1 _ hI.ext (Nat.le_refl _), ?_, fun i hi hd => ?_⟩
          · refine Says.iff (hI.says.away (a := k) (fun i hi => by have := hi.1; omega) (-1)) (fun i => ⟨fun h => ⟨by have := h.1; omega, h.2⟩, fun h => ⟨?_, h.2⟩⟩) (fun i j => ⟨fun h => ⟨by have := h.1; omega, h.2⟩, fun h => ⟨?_, h.2⟩⟩)
            · have := h.1; have : i ≠ k := fun e => hnd (e ▸ h.2); omega
            · have := h.1; have : i ≠ k := fun e => hnd (e ▸ h.2.1); omega
          · by_cases e : i = k
            · subst e; rw [List.getElem?_set_self hkp]
            · rw [List.getElem?_set_ne (fun h => e h.symm)]; exact hI.light i (by omega) hd
        ·
          have hdk : c.dk[k]? = some c.dark := by
            rw [List.getElem?_eq_getElem hkd]; simpa using hc
          have hkp : k < par.length := by have := hI.pl; omega
          have hkz : k < siz.length := by have := hI.zl; omega

          refine C.skip <| X.next <| C.seq <| C.held (fun w' => ∃ par' siz', SW w' w.heap.size c par' siz' ∧ par'.length = n ∧ siz'.length = n) (by kernel_rfl) fun wh hwh hhh => ?_
          have s0 := hI.sw.ext hwh
          have hS : ∃ par' siz', SW wh w.heap.size c par' siz' ∧ par'.length = n ∧ siz'.length = n := ⟨par, siz, s0, hI.pl, hI.zl⟩
          refine H.take 1 rfl rfl (by kernel_rfl) (by kernel_rfl) (by kernel_rfl) hS (fun w' hS => Y.mv rfl) rfl ?_
          refine H.take 3 rfl rfl (by kernel_rfl) (by kernel_rfl) (by kernel_rfl) hS (fun w' hS => Y.mv rfl) rfl ?_
          refine H.take 4 rfl rfl (by kernel_rfl) (by kernel_rfl) (by kernel_rfl) hS (fun w' hS => Y.mv rfl) rfl ?_
          refine H.take 5 rfl rfl (by kernel_rfl) (by kernel_rfl) (by kernel_rfl) hS (fun w' hS => Y.conv rfl Try.underlying3 Try.underlying21 (IntWalk.i32_in _ (by omega))) rfl ?_
          refine H.take 0 rfl rfl (by kernel_rfl) (by kernel_rfl) (by kernel_rfl) hS (fun w' hS => Y.load rfl Try.underlying107 rfl (hS.choose_spec.choose_spec.1.u.hp.cell 0)) rfl ?_
          refine H.take 6 rfl rfl (by kernel_rfl) (by kernel_rfl) (by kernel_rfl) hS (fun w' hS => Y.idx (sz := 1) rfl rfl hS.choose_spec.choose_spec.1.u.own.rd Try.underlying107 (by kernel_rfl) (by omega) (by have := hS.choose_spec.choose_spec.2.1; omega) (by decide)) rfl ?_
          refine H.take 2 rfl rfl (by kernel_rfl) (by kernel_rfl) (by kernel_rfl) hS (fun w' hS => Y.load rfl Try.underlying107 rfl (hS.choose_spec.choose_spec.1.hz.cell 0)) rfl ?_
          rw [show (k : Int).toNat * 1 = k from by omega]
          refine H.only 7 rfl (by kernel_rfl) ?_
          refine E.store rfl rfl (by kernel_rfl) rfl (s0.u.own.cellAt hkp).1 (s0.u.own.cellAt hkp).2.1 ?_
          obtain ⟨s1, f1⟩ := s0.setP hkp (k : Int)
          have hS : ∃ par' siz', SW (wh.setCell (el c.vp k) (i32 k)) w.heap.size c par' siz' ∧ par'.length = n ∧ siz'.length = n := ⟨_, _, s1, by rw [List.length_set]; exact hI.pl, hI.zl⟩
          refine H.back hS ?_
          refine H.take 8 rfl rfl (by kernel_rfl) (by kernel_rfl) (by kernel_rfl) hS (fun w' hS => Y.idx (sz := 1) rfl rfl hS.choose_spec.choose_spec.1.oz.rd Try.underlying107 (by kernel_rfl) (by omega) (by have := hS.choose_spec.choose_spec.2.2; omega) (by decide)) rfl ?_
          rw [show (k : Int).toNat * 1 = k from by omega]
          refine H.only 9 rfl (by kernel_rfl) ?_
          refine E.store rfl rfl (by kernel_rfl) rfl (s1.oz.cellAt hkz).1 (s1.oz.cellAt hkz).2.1 ?_
          obtain ⟨s2, f2⟩ := s1.setZ hkz 1
          have hS : ∃ par' siz', SW ((wh.setCell (el c.vp k) (i32 k)).setCell (el c.vz k) (i32 1)) w.heap.size c par' siz' ∧ par'.length = n ∧ siz'.length = n := ⟨_, _, s2, by rw [List.length_set]; exact hI.pl, by rw [List.length_set]; exact hI.zl⟩
          have t0 : Stg wk ((wh.setCell (el c.vp k) (i32 k)).setCell (el c.vz k) (i32 1)) w.heap.size c n W eight k (fun _ => False) (par.set k (k : Int)) (siz.set k 1) := by
            refine ⟨s2, by rw [List.length_set]; exact hI.pl, by rw [List.length_set]; exact hI.zl, ((Fr.ext hwh).trans f1).trans f2, ?_, fun i hi hd => ?_⟩
            · refine Says.iff (hI.says.one hkp (fun i hi => by have := hi.1; omega) (fun i j hij => hij.in)) (fun i => ⟨fun h => ?_, fun h => ?_⟩) (fun i j => ⟨fun h => .inl h, fun h => h.elim id fun h => h.2.2.elim⟩)
              · rcases h with h | rfl
                · exact ⟨by have := h.1; omega, h.2⟩
                · exact ⟨by omega, hdk⟩
              · by_cases e : i = k
                · exact .inr e
                · exact .inl ⟨by have := h.1; omega, h.2⟩
            · rw [List.getElem?_set_ne (by omega)]; exact hI.light i hi hd
          refine H.back hS ?_

          refine H.done (by kernel_rfl) <| X.next <| C.seq <| C.drawn (by kernel_rfl) (by kernel_rfl) <| ?_
          refine Q.mv rfl rfl ?_
          refine Q.fld (o := 0) (sz := 0) rfl Try.underlying37 rfl rfl (by kernel_rfl) rfl ?_
          refine Q.load rfl Try.underlying3 rfl (t0.sw.hm.cell 0) rfl ?_
          rw [hcW]
          refine Q.rem rfl rfl (by omega) (IntWalk.rem_in _ _ (by omega)) rfl ?_
          refine Q.mv rfl rfl ?_
          refine Q.fld (o := 0) (sz := 0) rfl Try.underlying37 rfl rfl (by kernel_rfl) rfl ?_
          refine Q.load rfl Try.underlying3 rfl (t0.sw.hm.cell 0) rfl ?_
          rw [hcW]
          refine Q.quo rfl rfl (by omega) (IntWalk.i64_quo _ _ (by omega)) rfl ?_
          rw [← Int.natCast_emod, ← Int.natCast_ediv]
          refine Q.asg rfl rfl ?_
          refine Q.asg rfl rfl ?_
          refine Q.nil <| fun w2 hx2 => X.next <| ?_

          refine C.cut (G := List Int × List Int) (fun _ => [(2, .bool eight), (3, pv c.bm), (4, pv c.bd), (7, pv c.bp), (8, pv c.bz), (9, pv c.bf), (10, fnv 89 [pv c.bm, pv c.bd, pv c.bf, pv c.bz, pv c.bp]), (11, i64 (k : Nat)), (13, i64 ((k % W : Nat) : Int)), (14, i64 ((k / W : Nat) : Int)), (27, c.vd), (28, i64 n), (29, i64 (k : Nat))]) (fun g w' => Stg wk w' w.heap.size c n W eight k (fun j => (0 < k % W ∧ j + 1 = k)) g.1 g.2) ?_ ?_
          ·
            refine C.seq <| C.region <| E.mv rfl rfl <| E.bin rfl rfl rfl rfl <| E.nil <| X.next <| ?_
            refine C.cond' rfl (fun hc => ?_) (fun hc => ?_)
            ·
              have hg : Stg wk w2 w.heap.size c n W eight k (fun _ => False) (par.set k (k : Int), siz.set k 1).1 (par.set k (k : Int), siz.set k 1).2 := t0.ext hx2
              generalize (par.set k (k : Int), siz.set k 1) = g at hg
              obtain ⟨b, hb⟩ : ∃ b : Nat, b + 1 = k := ⟨k - 1, by have hc' : (0 : Int) < ((k % W : Nat) : Int) := hc; have := Nat.mod_le k W; omega⟩
              refine C.region <| E.mv rfl rfl <| E.mv rfl rfl <| E.mv rfl rfl <| ?_
              refine E.sub' rfl rfl (by omega) rfl ?_
              rw [show (k : Int) - 1 = (b : Int) from by omega]
              refine E.callv rfl rfl rfl (unite_ret w.heap.size c n k b g.1 g.2 _ _ _ hg.sw hg.says ⟨by omega, hdk⟩ (fun hb => ⟨by omega, hb⟩) (by omega) (by omega) hdn hg.pl hg.zl (by omega)) ?_
              rintro _ w3 ⟨par', siz', hu⟩
              refine E.nil <| X.join (par', siz') (Sub.cons rfl <| Sub.cons rfl <| Sub.cons rfl <| Sub.cons rfl <| Sub.cons rfl <| Sub.cons rfl <| Sub.cons rfl <| Sub.cons rfl <| Sub.cons rfl <| Sub.cons rfl <| Sub.cons rfl <| Sub.cons rfl <| Sub.cons rfl <| Sub.nil _) ((hg.step hu).iff fun j => ?_)
              have hc' : (0 : Int) < ((k % W : Nat) : Int) := hc
              exact ⟨fun h => h.elim False.elim fun h => ⟨by omega, by omega⟩, fun h => .inr (by omega)⟩
            ·
              refine C.skip <| X.join (par.set k (k : Int), siz.set k 1) (Sub.cons rfl <| Sub.cons rfl <| Sub.cons rfl <| Sub.cons rfl <| Sub.cons rfl <| Sub.cons rfl <| Sub.cons rfl <| Sub.cons rfl <| Sub.cons rfl <| Sub.cons rfl <| Sub.cons rfl <| Sub.cons rfl <| Sub.cons rfl <| Sub.nil _) ((t0.ext hx2).iff fun j => ?_)
              have hc' : ¬ (0 : Int) < ((k % W : Nat) : Int) := hc
              exact ⟨False.elim, fun h => by omega⟩
          ·
            rintro g w3 hg

            refine C.cut (G := List Int × List Int) (fun _ => [(2, .bool eight), (3, pv c.bm), (4, pv c.bd), (7, pv c.bp), (8, pv c.bz), (9, pv c.bf), (10, fnv 89 [pv c.bm, pv c.bd, pv c.bf, pv c.bz, pv c.bp]), (11, i64 (k : Nat)), (13, i64 ((k % W : Nat) : Int)), (14, i64 ((k / W : Nat) : Int)), (27, c.vd), (28, i64 n), (29, i64 (k : Nat))]) (fun g w' => Stg wk w' w.heap.size c n W eight k (fun j => (0 < k % W ∧ j + 1 = k) ∨ (0 < k / W ∧ j + W = k)) g.1 g.2) ?_ ?_
            ·
              refine C.seq <| C.region <| E.mv rfl rfl <| E.bin rfl rfl rfl rfl <| E.nil <| X.next <| ?_
              refine C.cond' rfl (fun hc => ?_) (fun hc => ?_)
              ·
                have hc' : 0 < k / W := by have hc' : (0 : Int) < ((k / W : Nat) : Int) := hc; omega
                have hlo := row_lo hc'
                obtain ⟨b, hb⟩ : ∃ b : Nat, b + W = k := ⟨k - W, by omega⟩
                refine C.region <| E.mv rfl rfl <| E.mv rfl rfl <| E.mv rfl rfl <| ?_
                refine E.fld (o := 0) (sz := 0) rfl Try.underlying37 rfl rfl (by kernel_rfl) rfl ?_
                refine E.load rfl Try.underlying3 rfl (hg.sw.hm.cell 0) rfl ?_
                rw [hcW]
                refine E.sub' rfl rfl (by omega) rfl ?_
                rw [show (k : Int) - (W : Int) = (b : Int) from by omega]
                refine E.callv rfl rfl rfl (unite_ret w.heap.size c n k b g.1 g.2 _ _ _ hg.sw hg.says ⟨by omega, hdk⟩ (fun hb => ⟨by omega, hb⟩) (by omega) (by omega) hdn hg.pl hg.zl (by omega)) ?_
                rintro _ w4 ⟨par', siz', hu⟩
                refine E.nil <| X.join (par', siz') (Sub.cons rfl <| Sub.cons rfl <| Sub.cons rfl <| Sub.cons rfl <| Sub.cons rfl <| Sub.cons rfl <| Sub.cons rfl <| Sub.cons rfl <| Sub.cons rfl <| Sub.cons rfl <| Sub.cons rfl <| Sub.cons rfl <| Sub.cons rfl <| Sub.nil _) ((hg.step hu).iff fun j => ?_)
                exact ⟨fun h => h.imp id fun h => ⟨hc', by omega⟩, fun h => h.imp id fun h => by omega⟩
              ·
                refine C.skip <| X.join g (Sub.cons rfl <| Sub.cons rfl <| Sub.cons rfl <| Sub.cons rfl <| Sub.cons rfl <| Sub.cons rfl <| Sub.cons rfl <| Sub.cons rfl <| Sub.cons rfl <| Sub.cons rfl <| Sub.cons rfl <| Sub.cons rfl <| Sub.cons rfl <| Sub.nil _) (hg.iff fun j => ?_)
                have hc' : ¬ (0 : Int) < ((k / W : Nat) : Int) := hc
                exact ⟨.inl, fun h => h.elim id fun h => by omega⟩
            ·
              rintro g w4 hg

              refine C.cut (G := List Int × List Int) (fun _ => [(2, .bool eight), (3, pv c.bm), (4, pv c.bd), (7, pv c.bp), (8, pv c.bz), (9, pv c.bf), (10, fnv 89 [pv c.bm, pv c.bd, pv c.bf, pv c.bz, pv c.bp]), (11, i64 (k : Nat)), (13, i64 ((k % W : Nat) : Int)), (14, i64 ((k / W : Nat) : Int)), (27, c.vd), (28, i64 n), (29, i64 (k : Nat))]) (fun g w' => Stg wk w' w.heap.size c n W eight k (fun j => ((0 < k % W ∧ j + 1 = k) ∨ (0 < k / W ∧ j + W = k)) ∨ (eight = true ∧ 0 < k / W ∧ 0 < k % W ∧ j + W + 1 = k)) g.1 g.2) ?_ ?_
              ·
                refine C.seq <| C.region <| E.mv rfl rfl <| E.mv rfl rfl <| ?_
                cases eight with
                | false =>
                  refine E.off rfl rfl rfl rfl <| E.off rfl rfl rfl rfl <| E.pick rfl rfl rfl <| E.mv rfl rfl <| E.off rfl rfl rfl rfl <| E.off rfl rfl rfl rfl <| E.pick rfl rfl rfl <| E.nil <| X.next <| C.condF rfl <| C.skip <| X.join g (Sub.cons rfl <| Sub.cons rfl <| Sub.cons rfl <| Sub.cons rfl <| Sub.cons rfl <| Sub.cons rfl <| Sub.cons rfl <| Sub.cons rfl <| Sub.cons rfl <| Sub.cons rfl <| Sub.cons rfl <| Sub.cons rfl <| Sub.cons rfl <| Sub.nil _) (hg.iff fun j => ⟨.inl, fun h => h.elim id fun h => by cases h.1⟩)
                | true =>
                refine E.on rfl rfl (E.mv rfl rfl ?_)
                refine E.on rfl rfl (E.bin rfl rfl rfl rfl ?_)
                by_cases hy : (0 : Int) < ((k / W : Nat) : Int)
                case neg =>
                  rw [decide_eq_false hy]
                  refine E.pick rfl rfl rfl <| E.mv rfl rfl <| E.off rfl rfl rfl rfl <| E.off rfl rfl rfl rfl <| E.pick rfl rfl rfl <| E.nil <| X.next <| C.condF rfl <| C.skip <| X.join g (Sub.cons rfl <| Sub.cons rfl <| Sub.cons rfl <| Sub.cons rfl <| Sub.cons rfl <| Sub.cons rfl <| Sub.cons rfl <| Sub.cons rfl <| Sub.cons rfl <| Sub.cons rfl <| Sub.cons rfl <| Sub.cons rfl <| Sub.cons rfl <| Sub.nil _) (hg.iff fun j => ⟨.inl, fun h => h.elim id fun h => by have := h.2.1; omega⟩)
                rw [decide_eq_true hy]
                have hy' : 0 < k / W := by omega
                have hlo := row_lo hy'
                refine E.pick rfl rfl rfl <| E.mv rfl rfl <| ?_
                refine E.on rfl rfl (E.mv rfl rfl ?_)
                refine E.on rfl rfl (E.bin rfl rfl rfl rfl ?_)
                refine E.pick rfl rfl rfl <| E.nil <| X.next <| ?_
                refine C.cond' rfl (fun hc => ?_) (fun hc => ?_)
                ·
                  have hc' : 0 < k % W := by have hc' : (0 : Int) < ((k % W : Nat) : Int) := hc; omega
                  obtain ⟨b, hb⟩ : ∃ b : Nat, b + W + 1 = k := ⟨k - W - 1, by omega⟩
                  refine C.region <| E.mv rfl rfl <| E.mv rfl rfl <| E.mv rfl rfl <| ?_
                  refine E.fld (o := 0) (sz := 0) rfl Try.underlying37 rfl rfl (by kernel_rfl) rfl ?_
                  refine E.load rfl Try.underlying3 rfl (hg.sw.hm.cell 0) rfl ?_
                  rw [hcW]
                  refine E.sub' rfl rfl (by omega) rfl ?_
                  refine E.sub' rfl rfl (by omega) rfl ?_
                  rw [show (k : Int) - (W : Int) - 1 = (b : Int) from by omega]
                  refine E.callv rfl rfl rfl (unite_ret w.heap.size c n k b g.1 g.2 _ _ _ hg.sw hg.says ⟨by omega, hdk⟩ (fun hb => ⟨by omega, hb⟩) (by omega) (by omega) hdn hg.pl hg.zl (by omega)) ?_
                  rintro _ w5 ⟨par', siz', hu⟩
                  refine E.nil <| X.join (par', siz') (Sub.cons rfl <| Sub.cons rfl <| Sub.cons rfl <| Sub.cons rfl <| Sub.cons rfl <| Sub.cons rfl <| Sub.cons rfl <| Sub.cons rfl <| Sub.cons rfl <| Sub.cons rfl <| Sub.cons rfl <| Sub.cons rfl <| Sub.cons rfl <| Sub.nil _) ((hg.step hu).iff fun j => ?_)
                  exact ⟨fun h => h.imp id fun h => ⟨rfl, hy', hc', by omega⟩, fun h => h.imp id fun h => by omega⟩
                ·
                  refine C.skip <| X.join g (Sub.cons rfl <| Sub.cons rfl <| Sub.cons rfl <| Sub.cons rfl <| Sub.cons rfl <| Sub.cons rfl <| Sub.cons rfl <| Sub.cons rfl <| Sub.cons rfl <| Sub.cons rfl <| Sub.cons rfl <| Sub.cons rfl <| Sub.cons rfl <| Sub.nil _) (hg.iff fun j => ?_)
                  have hc' : ¬ (0 : Int) < ((k % W : Nat) : Int) := hc
                  exact ⟨.inl, fun h => h.elim id fun h => by omega⟩
              ·
                rintro g w5 hg
                have fin : ∀ (g : List Int × List Int) w', Stg wk w' w.heap.size c n W eight k (fun j => Back W eight k j) g.1 g.2 → SInv w w' c n W eight (k + 1) g.1 g.2 := fun g w' h => by
                  refine ⟨h.sw, h.pl, h.zl, h.fr _ hI.ext (Nat.le_refl _), Says.iff h.says (fun _ => Iff.rfl) (fun i j => ⟨fun e => ?_, fun e => ?_⟩), fun i hi hd => h.light i (by have : i ≠ k := fun e => hd (e ▸ hdk); omega) hd⟩
                  · rcases e with e | ⟨rfl, e1, e2⟩
                    · exact ⟨by have := e.1; omega, e.2⟩
                    · exact ⟨by omega, hdk, e1, e2⟩
                  · by_cases ek : i = k
                    · subst ek; exact .inr ⟨rfl, e.2.2.1, e.2.2.2⟩
                    · exact .inl ⟨by have := e.1; omega, e.2⟩
                have bk : ∀ j, Back W eight k j ↔ ((((0 < k % W ∧ j + 1 = k) ∨ (0 < k / W ∧ j + W = k)) ∨ (eight = true ∧ 0 < k / W ∧ 0 < k % W ∧ j + W + 1 = k)) ∨ (eight = true ∧ 0 < k / W ∧ k % W + 1 < W ∧ j + W = k + 1)) := fun j => by unfold Back; exact or_assoc.symm
                refine C.seq <| C.region <| E.mv rfl rfl <| E.mv rfl rfl <| ?_
                cases eight with
                | false =>
                  refine E.off rfl rfl rfl rfl <| E.off rfl rfl rfl rfl <| E.pick rfl rfl rfl <| E.mv rfl rfl <| E.off rfl rfl rfl rfl <| E.off rfl rfl rfl rfl <| E.off rfl rfl rfl rfl <| E.off rfl rfl rfl rfl <| E.off rfl rfl rfl rfl <| E.pick rfl rfl rfl <| E.nil <| X.next <| C.condF rfl <| C.skip <| X.outN <| X.join g (Sub.cons rfl <| Sub.cons rfl <| Sub.cons rfl <| Sub.cons rfl <| Sub.cons rfl <| Sub.cons rfl <| Sub.cons rfl <| Sub.cons rfl <| Sub.cons rfl <| Sub.cons rfl <| Sub.nil _) (fin _ _ (hg.iff fun j => by rw [bk]; exact ⟨.inl, fun h => h.elim id fun h => by cases h.1⟩))
                | true =>
                refine E.on rfl rfl (E.mv rfl rfl ?_)
                refine E.on rfl rfl (E.bin rfl rfl rfl rfl ?_)
                by_cases hy : (0 : Int) < ((k / W : Nat) : Int)
                case neg =>
                  rw [decide_eq_false hy]
                  refine E.pick rfl rfl rfl <| E.mv rfl rfl <| E.off rfl rfl rfl rfl <| E.off rfl rfl rfl rfl <| E.off rfl rfl rfl rfl <| E.off rfl rfl rfl rfl <| E.off rfl rfl rfl rfl <| E.pick rfl rfl rfl <| E.nil <| X.next <| C.condF rfl <| C.skip <| X.outN <| X.join g (Sub.cons rfl <| Sub.cons rfl <| Sub.cons rfl <| Sub.cons rfl <| Sub.cons rfl <| Sub.cons rfl <| Sub.cons rfl <| Sub.cons rfl <| Sub.cons rfl <| Sub.cons rfl <| Sub.nil _) (fin _ _ (hg.iff fun j => by rw [bk]; exact ⟨.inl, fun h => h.elim id fun h => by have := h.2.1; omega⟩))
                rw [decide_eq_true hy]
                have hy' : 0 < k / W := by omega
                have hlo := row_lo hy'
                refine E.pick rfl rfl rfl <| E.mv rfl rfl <| ?_
                refine E.on rfl rfl (E.mv rfl rfl ?_)
                refine E.on rfl rfl (E.fld (o := 0) (sz := 0) rfl Try.underlying37 rfl rfl (by kernel_rfl) rfl ?_)
                refine E.on rfl rfl (E.load rfl Try.underlying3 rfl (hg.sw.hm.cell 0) rfl ?_)
                rw [hcW]
                refine E.on rfl rfl (E.sub' rfl rfl (by omega) rfl ?_)
                refine E.on rfl rfl (E.bin rfl rfl rfl rfl ?_)
                refine E.pick rfl rfl rfl <| E.nil <| X.next <| ?_
                refine C.cond' rfl (fun hc => ?_) (fun hc => ?_)
                ·
                  have hc' : k % W + 1 < W := by have hc' : ((k % W : Nat) : Int) < (W : Int) - 1 := hc; omega
                  obtain ⟨b, hb⟩ : ∃ b : Nat, b + W = k + 1 := ⟨k + 1 - W, by omega⟩
                  refine C.region <| E.mv rfl rfl <| E.mv rfl rfl <| E.mv rfl rfl <| ?_
                  refine E.fld (o := 0) (sz := 0) rfl Try.underlying37 rfl rfl (by kernel_rfl) rfl ?_
                  refine E.load rfl Try.underlying3 rfl (hg.sw.hm.cell 0) rfl ?_
                  rw [hcW]
                  refine E.sub' rfl rfl (by omega) rfl ?_
                  refine E.add rfl rfl (by omega) rfl ?_
                  rw [show (k : Int) - (W : Int) + 1 = (b : Int) from by omega]
                  refine E.callv rfl rfl rfl (unite_ret w.heap.size c n k b g.1 g.2 _ _ _ hg.sw hg.says ⟨by omega, hdk⟩ (fun hb => ⟨by omega, hb⟩) (by omega) (by omega) hdn hg.pl hg.zl (by omega)) ?_
                  rintro _ w6 ⟨par', siz', hu⟩
                  refine E.nil <| X.outN <| X.join (par', siz') (Sub.cons rfl <| Sub.cons rfl <| Sub.cons rfl <| Sub.cons rfl <| Sub.cons rfl <| Sub.cons rfl <| Sub.cons rfl <| Sub.cons rfl <| Sub.cons rfl <| Sub.cons rfl <| Sub.nil _) (fin (par', siz') _ ((hg.step hu).iff fun j => ?_))
                  rw [bk]
                  exact ⟨fun h => h.imp id fun h => ⟨rfl, hy', hc', by omega⟩, fun h => h.imp id fun h => by omega⟩
                ·
                  refine C.skip <| X.outN <| X.join g (Sub.cons rfl <| Sub.cons rfl <| Sub.cons rfl <| Sub.cons rfl <| Sub.cons rfl <| Sub.cons rfl <| Sub.cons rfl <| Sub.cons rfl <| Sub.cons rfl <| Sub.cons rfl <| Sub.nil _) (fin _ _ (hg.iff fun j => ?_))
                  have hc' : ¬ ((k % W : Nat) : Int) < (W : Int) - 1 := hc
                  rw [bk]
                  exact ⟨.inl, fun h => h.elim id fun h => by omega⟩
      ·
        rintro g wg hg
        refine C.region <| ?_
        refine E.add rfl rfl (by omega) rfl ?_
        refine E.mv rfl rfl <| E.nil <| X.again (k + 1, g.1, g.2) (Sub.cons rfl <| Sub.cons rfl <| Sub.cons rfl <| Sub.cons rfl <| Sub.cons rfl <| Sub.cons rfl <| Sub.cons rfl <| Sub.cons rfl <| Sub.cons rfl <| Sub.cons rfl <| Sub.nil _) ⟨hk', hg⟩ (by simp only; omega)
    ·
      obtain rfl : k = n := by have hc' : ¬ (k : Int) < (n : Int) := hc; omega
      have hR0 : RInv w wk c k W eight 0 par siz := ⟨hI.sw, hI.pl, hI.ext, hI.says, hI.light, fun i hi => by omega⟩
      refine C.exit <| X.exitT <| X.exitT <| X.outE <| X.next <| C.seq <| C.seq <| C.region <| ?_
      refine E.load rfl Try.underlying107 rfl (hI.sw.u.hp.cell 0) rfl ?_
      refine E.len rfl hI.sw.u.own.rd Try.underlying107 rfl ?_
      rw [hI.pl]
      refine E.mv rfl rfl <| E.nil <| X.next <| C.block <| ?_

      refine C.loop (G := Nat × List Int × List Int) (fun g => [(7, pv c.bp), (9, pv c.bf), (111, i64 k), (112, i64 (g.1 : Nat))]) (fun g w' => g.1 ≤ k ∧ RInv w w' c k W eight g.1 g.2.1 g.2.2) (fun g => k - g.1) (0, par, siz) ?_ ?_ ?_
      · exact Sub.cons rfl <| Sub.cons rfl <| Sub.cons rfl <| Sub.cons rfl <| Sub.nil _
      · exact ⟨Nat.zero_le _, hR0⟩
      · clear hR0 hI
        rintro ⟨i, par, siz⟩ wi ⟨hi, hR⟩
        simp only at hi hR
        refine C.seq <| C.region <| E.bin rfl rfl rfl rfl <| E.nil <| X.next <| C.seq <| ?_
        refine C.cond' rfl (fun hc => ?_) (fun hc => ?_)
        ·
          have hi' : i < k := by have hc' : (i : Int) < (k : Int) := hc; omega
          have hip : i < par.length := by have := hR.pl; omega
          refine C.skip <| X.next <| ?_

          refine C.cut (G := List Int × List Int) (fun _ => [(7, pv c.bp), (9, pv c.bf), (111, i64 k), (112, i64 (i : Nat))]) (fun g w' => RInv w w' c k W eight (i + 1) g.1 g.2) ?_ ?_
          ·
            refine C.block <| C.seq <| C.region <| E.mv rfl rfl <| E.asg rfl rfl <| E.nil <| X.next <| C.seq <| C.region <| ?_
            refine E.load rfl Try.underlying107 rfl (hR.sw.u.hp.cell 0) rfl ?_
            refine E.mv rfl rfl <| ?_
            refine E.get (k := i) rfl rfl hR.sw.u.own.rd rfl hip Try.underlying107 (by kernel_rfl) Try.underlying21 rfl rfl rfl ?_
            refine E.bin rfl rfl rfl rfl <| E.nil <| X.next <| ?_
            refine C.cond' rfl (fun hc => ?_) (fun hc => ?_)
            ·
              have hdi : c.dk[i]? = some c.dark := Decidable.byContradiction fun hd => by
                have := hR.light i hi' hd
                rw [List.getElem?_eq_getElem hip] at this
                exact hc (Option.some.inj this)
              obtain ⟨r, hDr, m, hpm⟩ := hR.says.root i ⟨hi', hdi⟩

              refine C.held (fun w' => ∃ par', UW w' w.heap.size c.bp c.bf c.vp par' ∧ par'.length = k) (by kernel_rfl) fun wh hwh hhh => ?_
              have s0 := hR.sw.ext hwh
              have hS : ∃ par', UW wh w.heap.size c.bp c.bf c.vp par' ∧ par'.length = k := ⟨par, s0.u, hR.pl⟩
              refine H.take 1 rfl rfl (by kernel_rfl) (by kernel_rfl) (by kernel_rfl) hS (fun w' hS => Y.mv rfl) rfl ?_
              refine H.take 3 rfl rfl (by kernel_rfl) (by kernel_rfl) (by kernel_rfl) hS (fun w' hS => Y.mv rfl) rfl ?_
              refine H.take 4 rfl rfl (by kernel_rfl) (by kernel_rfl) (by kernel_rfl) hS (fun w' hS => Y.conv rfl Try.underlying3 Try.underlying21 (IntWalk.i32_in _ (by omega))) rfl ?_
              refine H.take 0 rfl rfl (by kernel_rfl) (by kernel_rfl) (by kernel_rfl) hS (fun w' hS => Y.load rfl Try.underlying107 rfl (hS.choose_spec.1.hp.cell 0)) rfl ?_
              refine H.only 2 rfl (by kernel_rfl) ?_
              refine E.load rfl Try.underlying144 rfl (s0.u.hf.cell 0) rfl ?_
              refine H.back hS ?_
              refine H.only 5 rfl (by kernel_rfl) ?_
              refine E.callv rfl rfl rfl (find_ret w.heap.size c.bp c.bf c.vp m i r par _ hpm s0.u) ?_
              rintro _ w1 ⟨rfl, par1, hu1, hc1, hg1⟩
              have s1 := s0.parG hg1 hu1
              have hl1 : par1.length = k := by rw [hc1.1]; exact hR.pl
              have hS : ∃ par', UW w1 w.heap.size c.bp c.bf c.vp par' ∧ par'.length = k := ⟨par1, hu1, hl1⟩
              refine H.back hS ?_
              refine H.take 6 rfl rfl (by kernel_rfl) (by kernel_rfl) (by kernel_rfl) hS (fun w' hS => Y.idx (sz := 1) rfl rfl hS.choose_spec.1.own.rd Try.underlying107 (by kernel_rfl) (by omega) (by have := hS.choose_spec.2; omega) (by decide)) rfl ?_
              rw [show (i : Int).toNat * 1 = i from by omega]
              have hi1 : i < par1.length := by omega
              refine H.only 7 rfl (by kernel_rfl) ?_
              refine E.store rfl rfl (by kernel_rfl) rfl (hu1.own.cellAt hi1).1 (hu1.own.cellAt hi1).2.1 ?_
              obtain ⟨s2, f2⟩ := s1.setP hi1 (r : Int)
              have hS : ∃ par', UW (w1.setCell (el c.vp i) (i32 r)) w.heap.size c.bp c.bf c.vp par' ∧ par'.length = k := ⟨_, s2.u, by rw [List.length_set]; exact hl1⟩
              obtain ⟨m2, hc2⟩ := Comp.last hc1 ⟨m, hpm⟩
              have hDi : Dm c.dk c.dark k i := ⟨hi', hdi⟩
              have hR2 : RInv w (w1.setCell (el c.vp i) (i32 r)) c k W eight (i + 1) (par1.set i (r : Int)) siz := by
                refine ⟨s2, by rw [List.length_set]; exact hl1, (((Fr.ext hwh).trans (Fr.own s0.u.own hg1)).trans f2) _ hR.ext (Nat.le_refl _), hR.says.comp hc2, fun a ha hd => ?_, fun a ha hd => ?_⟩
                · rw [hc2.out hDi hR.says.step (fun hD => hd hD.2)]; exact hR.light a ha hd
                · by_cases e : a = i
                  · subst e; exact ⟨r, by rw [List.getElem?_set_self hi1], hc2.root ⟨m, hpm⟩⟩
                  · obtain ⟨r', h1, h2⟩ := hR.done a (by omega) hd
                    exact ⟨r', Comp.val hc2 h1 h2, hc2.root h2⟩
              refine H.back hS ?_
              refine H.done (by kernel_rfl) <| X.outN <| X.join (par1.set i (r : Int), siz) (Sub.cons rfl <| Sub.cons rfl <| Sub.cons rfl <| Sub.cons rfl <| Sub.nil _) hR2
            ·
              have hdi : c.dk[i]? ≠ some c.dark := fun hd => by
                obtain ⟨r, hDr, hr⟩ := hR.says.root i ⟨hi', hd⟩
                have hv : par[i] = -1 := Decidable.byContradiction fun h => hc h
                obtain ⟨m, hm⟩ := hr
                cases m with
                | zero => have := hm.2; rw [List.getElem?_eq_getElem hip, hv] at this; have := Option.some.inj this; omega
                | succ m => obtain ⟨j, hj, _⟩ := hm; rw [List.getElem?_eq_getElem hip, hv] at hj; have := Option.some.inj hj; omega
              refine C.skip <| X.outN <| X.join (par, siz) (Sub.cons rfl <| Sub.cons rfl <| Sub.cons rfl <| Sub.cons rfl <| Sub.nil _) { hR with done := fun a ha hd => hR.done a (by have : a ≠ i := fun e => hdi (e ▸ hd); omega) hd }
          ·
            rintro g wg hg
            refine C.region <| ?_
            refine E.add rfl rfl (by omega) rfl ?_
            refine E.mv rfl rfl <| E.nil <| X.again (i + 1, g.1, g.2) (Sub.cons rfl <| Sub.cons rfl <| Sub.cons rfl <| Sub.cons rfl <| Sub.nil _) ⟨hi', hg⟩ (by simp only; omega)
        ·
          obtain rfl : i = k := by have hc' : ¬ (i : Int) < (k : Int) := hc; omega
          refine C.exit <| X.exitT <| X.exitT <| X.outE <| X.next <| C.seq <| C.region <| ?_
          refine E.load rfl Try.underlying107 rfl (hR.sw.u.hp.cell 0) rfl ?_
          refine E.asg rfl rfl <| E.nil <| X.next <| C.ret <| ret1 rfl rfl ?_
          exact ⟨par, hR.sw.u.own, by have := parted hR hdn; rw [hcdk, hcdark] at this; exact this, hR.ext⟩
end Go.Proofs.Ytbinlkobmlebpaa
