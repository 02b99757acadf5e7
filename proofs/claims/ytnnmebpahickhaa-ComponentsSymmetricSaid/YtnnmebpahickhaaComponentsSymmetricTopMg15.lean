/- Texts of the claim, laid together: PartsM, Parts. -/
import Derived.Test.YtnnmebpahickhaaComponentsSymmetricTopMg14
/- reference of components: what parts keeps; plain mathematics. -/
namespace Go.Proofs.Ytnnmebpahickhaa
set_option linter.unusedSimpArgs false
set_option linter.unusedVariables false
open Go.RowKit Sym Uf

/-- ahead of pixel i: the components that begin before it have their numbers -/
structure PInv (D : Nat → Prop) (R : Nat → Nat → Prop) (W n i : Nat) (lab : List Int) (bl : List Bl) : Prop where
  len : lab.length = n
  off : ∀ j : Nat, j < n → ¬ D j → lab[j]? = some (-1)
  on : ∀ j f : Nat, j < n → D j → Fst D R f → R f j → f < i → lab[j]? = some (nf D R f : Int)
  new : ∀ j f : Nat, j < n → D j → Fst D R f → R f j → i ≤ f → lab[j]? = some (-1)
  num : bl.length = nf D R i
  blob : ∀ f, f < i → Fst D R f → ∃ b, bl[nf D R f]? = some b ∧ BSpec D R W f n b
section
variable {D : Nat → Prop} {R : Nat → Nat → Prop} {W n i : Nat} {lab : List Int} {bl : List Bl}
theorem PInv.start (D : Nat → Prop) (R : Nat → Nat → Prop) (W n : Nat) : PInv D R W n 0 (List.replicate n (-1)) [] where
  len := by simp
  off j hj _ := by simp [hj]
  on j f _ _ _ _ h := by omega
  new j f hj _ _ _ _ := by simp [hj]
  num := rfl
  blob f h := by omega
theorem PInv.skip (h : PInv D R W n i lab bl) (hi : i < n) (hR : ∀ i, R i i) (hno : ¬ (D i ∧ ∃ z, lab[i]? = some z ∧ z < 0)) : PInv D R W n (i + 1) lab bl := by
  have hF : ¬ Fst D R i := fun hf => hno ⟨hf.1, -1, h.new i i hi hf.1 hf (hR i) (Nat.le_refl _), by decide⟩
  refine ⟨h.len, h.off, fun j f hj hD hf hr hlt => h.on j f hj hD hf hr (by have : f ≠ i := fun e => hF (e ▸ hf); omega), fun j f hj hD hf hr hle => h.new j f hj hD hf hr (by omega), by rw [nf_succ_neg hF]; exact h.num, fun f hlt hf => h.blob f (by have : f ≠ i := fun e => hF (e ▸ hf); omega) hf⟩
theorem PInv.first (h : PInv D R W n i lab bl) (hi : i < n) (hr : ∀ i, R i i) (ht : ∀ i j k, R i j → R j k → R i k) (hD : D i) {z : Int} (hz : lab[i]? = some z) (h0 : z < 0) : Fst D R i := by
  obtain ⟨f, f1, f2, f3⟩ := first_of (D := D) hr ht i hD
  by_cases e : f = i
  · exact e ▸ f2
  · have := h.on i f hi hD f2 f3 (by omega)
    rw [hz] at this; cases this; omega
theorem PInv.next (h : PInv D R W n i lab bl) (hs : ∀ i j, R i j → R j i) (ht : ∀ i j k, R i j → R j k → R i k) (hf : Fst D R i) {lab' : List Int} (hlen : lab'.length = n) (hin : ∀ j : Nat, j < n → D j → R i j → lab'[j]? = some (nf D R i : Int)) (hout : ∀ j : Nat, j < n → ¬ (D j ∧ R i j) → lab'[j]? = lab[j]?) {b : Bl} (hb : BSpec D R W i n b) :
    PInv D R W n (i + 1) lab' (bl ++ [b]) := by
  refine ⟨hlen, fun j hj hD => by rw [hout j hj (fun e => hD e.1)]; exact h.off j hj hD, fun j f hj hD hf' hr hlt => ?_, fun j f hj hD hf' hr hle => ?_, by rw [List.length_append, nf_succ_pos hf, h.num]; rfl, fun f hlt hf' => ?_⟩
  · by_cases e : f = i
    · subst e; exact hin j hj hD hr
    · rw [hout j hj (fun x => e (first_eq hs ht hf' hf hr x.2))]; exact h.on j f hj hD hf' hr (by omega)
  · rw [hout j hj (fun x => by have := first_eq hs ht hf' hf hr x.2; omega)]; exact h.new j f hj hD hf' hr (by omega)
  · by_cases e : f = i
    · subst e; exact ⟨b, by rw [← h.num, List.getElem?_append_right (Nat.le_refl _)]; simp, hb⟩
    · obtain ⟨c, c1, c2⟩ := h.blob f (by omega) hf'
      exact ⟨c, by rw [List.getElem?_append_left (List.getElem?_eq_some_iff.1 c1).1]; exact c1, c2⟩
theorem PInv.labelled (h : PInv D R W n n lab bl) (hr : ∀ i, R i i) (ht : ∀ i j k, R i j → R j k → R i k) : Labelled D R W n lab bl where
  len := h.len
  off := h.off
  on i hi hD := by
    obtain ⟨f, f1, f2, f3⟩ := first_of (D := D) hr ht i hD
    exact ⟨f, f1, f2, f3, h.on i f hi hD f2 f3 (by omega)⟩
  num := h.num
  blob := h.blob
end
/-- the number of members, by a list of them -/
theorem cnt_list {D : Nat → Prop} {R : Nat → Nat → Prop} {f : Nat} : ∀ (n : Nat) (l : List Nat), l.Nodup → (∀ j, j ∈ l ↔ j < n ∧ D j ∧ R f j) → cnt D R f n = l.length := by
  intro n
  induction n with
  | zero => intro l _ h; cases l with
    | nil => rfl
    | cons a l => have := (h a).1 (by simp); omega
  | succ n ih =>
    intro l hl h
    rw [cnt]
    by_cases hn : D n ∧ R f n
    · rw [if_pos hn]
      have hm : n ∈ l := (h n).2 ⟨by omega, hn⟩
      rw [ih (l.erase n) (hl.erase n) (fun j => by
        rw [hl.mem_erase_iff, h j]
        constructor
        · rintro ⟨h1, h2, h3⟩; exact ⟨by omega, h3⟩
        · rintro ⟨h1, h3⟩; exact ⟨by omega, by omega, h3⟩), List.length_erase_of_mem hm]
      have := List.length_pos_of_mem hm; omega
    · rw [if_neg hn, Nat.add_zero]
      exact ih l hl fun j => by
        rw [h j]
        constructor
        · rintro ⟨h1, h3⟩; exact ⟨by have : j ≠ n := fun e => hn (e ▸ h3); omega, h3⟩
        · rintro ⟨h1, h3⟩; exact ⟨by omega, h3⟩
/-- the blob of a component that was filled -/
theorem Bx.spec {D : Nat → Prop} {R : Nat → Nat → Prop} {W Ht n f : Nat} {pl : List Nat} {b : Bl} (hl : pl.Nodup) (hm : ∀ j, j ∈ pl ↔ j < n ∧ D j ∧ R f j) (hs : ∀ i j, R i j → R j i) (hr : ∀ i, R i i) (hf : Fst D R f) (hfn : f < n) (hB : Bx W Ht pl pl.length b.x b.y (b.x + b.w - 1) (b.y + b.h - 1)) (ha : b.area = pl.length) (hfx : b.fx = ((f % W : Nat) : Int)) (hfy : b.fy = ((f / W : Nat) : Int)) : BSpec D R W f n b := by
  have hfm : f ∈ pl := (hm f).2 ⟨hfn, hf.1, hr f⟩
  have h0 : 0 < pl.length := List.length_pos_of_mem hfm
  have hall : ∀ p ∈ pl, b.x ≤ ((p % W : Nat) : Int) ∧ ((p % W : Nat) : Int) ≤ b.x + b.w - 1 ∧ b.y ≤ ((p / W : Nat) : Int) ∧ ((p / W : Nat) : Int) ≤ b.y + b.h - 1 := fun p hp => by
    obtain ⟨j, hj, e⟩ := List.mem_iff_getElem.1 hp
    exact hB.all j p hj (by rw [List.getElem?_eq_getElem hj, e])
  obtain ⟨p1, m1, e1⟩ := hB.l h0
  obtain ⟨p2, m2, e2⟩ := hB.r h0
  obtain ⟨p3, m3, e3⟩ := hB.t h0
  obtain ⟨p4, m4, e4⟩ := hB.b h0
  have k1 := (hm p1).1 m1
  have k2 := (hm p2).1 m2
  have k3 := (hm p3).1 m3
  have k4 := (hm p4).1 m4
  have hle : f / W ≤ p3 / W := Nat.div_le_div_right (hf.le hs k3.2.1 k3.2.2)
  have hy : b.y = ((f / W : Nat) : Int) := by have := (hall f hfm).2.2.1; omega
  refine ⟨hfx, hfy, hy, fun i hi hD hR => ?_, ⟨p1, k1.1, k1.2.1, k1.2.2, e1⟩, ⟨p2, k2.1, k2.2.1, k2.2.2, by omega⟩, ⟨p4, k4.1, k4.2.1, k4.2.2, by omega⟩, by rw [ha, cnt_list n pl hl hm]⟩
  have := hall i ((hm i).2 ⟨hi, hD, hR⟩)
  omega
end Go.Proofs.Ytnnmebpahickhaa

/- reference of components: parts. -/
namespace Go.Proofs.Ytnnmebpahickhaa
set_option linter.unusedSimpArgs false
set_option linter.unusedVariables false
open Go.RowKit Sym Uf

set_option maxHeartbeats 1000000 in
theorem rparts_ret (W Ht : Nat) (vd : Value) (dk : List Bool) (dark eight : Bool) (w : World) (hW : 1 ≤ W ∧ W ≤ 4096) (hH : 1 ≤ Ht ∧ Ht ≤ 4096) (hn : dk.length = W * Ht) (hn0 : dk.length ≤ 4194304) (hr : RdL Value.bool w vd dk) :
    Ret Try.prog 38 #[mat W Ht vd, .bool dark, .bool eight] w fun v w' => ∃ va vb lab bl, v = .tuple #[va, vb] ∧ Labelled (DD dk dark) (RR W eight dk dark) W dk.length lab bl ∧ M w Nn w' [Rg.sl i64 3 va lab, Rg.slF Bl.cells 7 38 vb bl] := by
  have hM := M.start w
  refine enter Try.func38 rfl (by kernel_rfl) Try.ntmps38 rfl ?_
  refine C.seq <| C.region <| ?_
  refine E.boxM hM rfl rfl rfl ?_
  intro b3 w0 hM
  try dsimp only [List.nil_append, List.cons_append, List.set_cons_zero, List.set_cons_succ, repl] at hM
  refine E.asg rfl rfl <| E.asg rfl rfl <| E.nil <| X.next <| C.seq <| C.region <| E.asg rfl rfl <| E.nil <| X.next <| C.seq <| C.seq <| C.region <| E.asg rfl rfl <| E.nil <| X.next <| C.block <| ?_
  have hM := hM.nil i64 3

  refine C.loop2 [(1, _), (2, _), (3, _)] rfl (fun (vl : Value) (i : Nat) => [(8, vl), (9, i64 i)]) (fun (vl : Value) (i : Nat) w' => M w (Nn) w' [Rg.blk b3 24 [i64 W, i64 Ht, vd], Rg.sl i64 3 vl (List.replicate i (-1))] ∧ i ≤ dk.length) (fun (vl : Value) (i : Nat) => dk.length - i) nilS 0 ?_ ?_ ?_
  · exact Sub.cons rfl <| Sub.cons rfl <| Sub.nil _
  · exact ⟨hM, Nat.zero_le _⟩
  rintro vl i w1 ⟨hM, hi⟩
  refine C.seq <| C.seq <| C.region <| E.mv rfl rfl <| ?_
  refine E.fld (o := 2) (sz := 0) rfl Try.underlying24 rfl rfl (by kernel_rfl) rfl ?_
  refine E.load rfl Try.underlying22 rfl (by first | exact hM.bcell 0 rfl rfl | exact hM.bcell 1 rfl rfl | exact hM.bcell 2 rfl rfl | exact hM.bcell 3 rfl rfl | exact hM.bcell 4 rfl rfl | exact hM.bcell 5 rfl rfl | exact hM.bcell 6 rfl rfl | exact hM.bcell 7 rfl rfl) rfl ?_
  refine E.lenv rfl (Rd.shape (by first | exact hM.sl 0 rfl | exact hM.sl 1 rfl | exact hM.sl 2 rfl | exact hM.sl 3 rfl | exact hM.sl 4 rfl | exact hM.sl 5 rfl | exact hM.sl 6 rfl | exact hM.sl 7 rfl | exact hM.arg0 (by assumption) | exact hM.arg (by assumption) (by assumption) | assumption)) Try.underlying22 rfl ?_
  refine E.bin rfl rfl rfl rfl <| E.nil <| X.next <| ?_
  refine C.cond' rfl (fun hC0 => ?_) (fun hC0 => ?_)
  ·
    refine C.skip <| X.next <| C.seq <| C.block <| C.region <| E.mv rfl rfl <| ?_
    first
      | refine E.pushM 0 _ hM rfl rfl rfl Try.underlying27 elem_Tint rfl ?_ ?_ (by simp) rfl rfl ?_
      | refine E.pushM 1 _ hM rfl rfl rfl Try.underlying27 elem_Tint rfl ?_ ?_ (by simp) rfl rfl ?_
      | refine E.pushM 2 _ hM rfl rfl rfl Try.underlying27 elem_Tint rfl ?_ ?_ (by simp) rfl rfl ?_
      | refine E.pushM 3 _ hM rfl rfl rfl Try.underlying27 elem_Tint rfl ?_ ?_ (by simp) rfl rfl ?_
      | refine E.pushM 4 _ hM rfl rfl rfl Try.underlying27 elem_Tint rfl ?_ ?_ (by simp) rfl rfl ?_
      | refine E.pushM 5 _ hM rfl rfl rfl Try.underlying27 elem_Tint rfl ?_ ?_ (by simp) rfl rfl ?_
      | refine E.pushM 6 _ hM rfl rfl rfl Try.underlying27 elem_Tint rfl ?_ ?_ (by simp) rfl rfl ?_
      | refine E.pushM 7 _ hM rfl rfl rfl Try.underlying27 elem_Tint rfl ?_ ?_ (by simp) rfl rfl ?_
    · exact (by first | omega | (simp only [List.length_replicate, List.length_append, List.length_set, List.length_cons, List.length_nil, List.length_map, List.length_range, List.length_take, List.length_drop, List.length_zipWith] at *; omega))
    · exact (by first | omega | (simp only [List.length_replicate, List.length_append, List.length_set, List.length_cons, List.length_nil, List.length_map, List.length_range, List.length_take, List.length_drop, List.length_zipWith] at *; omega))
    intro v22 u22 w2 hM
    try dsimp only [List.nil_append, List.cons_append, List.set_cons_zero, List.set_cons_succ, repl] at hM
    refine E.asg rfl rfl <| E.nil <| X.outN <| X.next <| C.region <| E.mv rfl rfl <| ?_
    refine E.add rfl rfl (by omega) rfl ?_

    refine E.asg rfl rfl <| E.nil <| X.again2 _ (i + 1) (Sub.cons rfl <| Sub.cons rfl <| Sub.nil _) rfl ⟨by rw [List.replicate_succ']; exact hM, by omega⟩ (by omega)
  ·
    obtain rfl : i = dk.length := by omega
    refine C.exit <| X.exitT <| X.exitT <| X.outE <| X.next <| C.seq <| C.region <| E.asg rfl rfl <| E.nil <| X.next <| C.seq <| C.seq <| C.region <| E.asg rfl rfl <| E.nil <| X.next <| C.block <| ?_
    have hM := hM.nilF Bl.cells 7 38

    refine C.loop5 [(1, _), (2, _), (3, _)] rfl (fun (vl : Value) (lab : (List Int)) (vb : Value) (bl : (List Bl)) (i : Nat) => [(8, vl), (10, vb), (11, i64 i)]) (fun (vl : Value) (lab : (List Int)) (vb : Value) (bl : (List Bl)) (i : Nat) w' => M w (Nn) w' [Rg.blk b3 24 [i64 W, i64 Ht, vd], Rg.sl i64 3 vl lab, Rg.slF Bl.cells 7 38 vb bl] ∧ i ≤ dk.length ∧ PInv (DD dk dark) (RR W eight dk dark) W dk.length i lab bl) (fun (vl : Value) (lab : (List Int)) (vb : Value) (bl : (List Bl)) (i : Nat) => dk.length - i) vl (List.replicate dk.length (-1)) nilS [] 0 ?_ ?_ ?_
    · exact Sub.cons rfl <| Sub.cons rfl <| Sub.cons rfl <| Sub.nil _
    · exact ⟨hM, Nat.zero_le _, PInv.start _ _ _ _⟩
    rintro vl lab vb bl i w3 ⟨hM, hi, hP⟩
    refine C.seq <| C.seq <| C.region <| E.mv rfl rfl <| ?_
    refine E.fld (o := 2) (sz := 0) rfl Try.underlying24 rfl rfl (by kernel_rfl) rfl ?_
    refine E.load rfl Try.underlying22 rfl (by first | exact hM.bcell 0 rfl rfl | exact hM.bcell 1 rfl rfl | exact hM.bcell 2 rfl rfl | exact hM.bcell 3 rfl rfl | exact hM.bcell 4 rfl rfl | exact hM.bcell 5 rfl rfl | exact hM.bcell 6 rfl rfl | exact hM.bcell 7 rfl rfl) rfl ?_
    refine E.lenv rfl (Rd.shape (by first | exact hM.sl 0 rfl | exact hM.sl 1 rfl | exact hM.sl 2 rfl | exact hM.sl 3 rfl | exact hM.sl 4 rfl | exact hM.sl 5 rfl | exact hM.sl 6 rfl | exact hM.sl 7 rfl | exact hM.arg0 (by assumption) | exact hM.arg (by assumption) (by assumption) | assumption)) Try.underlying22 rfl ?_
    refine E.bin rfl rfl rfl rfl <| E.nil <| X.next <| ?_
    refine C.cond' rfl (fun hC1 => ?_) (fun hC1 => ?_)
    ·
      have hi' : i < dk.length := by omega
      have hil : i < lab.length := by rw [hP.len]; exact hi'
      have hnum := hP.num
      have hnf := nf_le (D := DD dk dark) (R := RR W eight dk dark) i
      refine C.skip <| X.next <| ?_

      refine C.cut4 [(1, _), (2, _), (3, _), (11, _)] rfl (fun (vl : Value) (lab : (List Int)) (vb : Value) (bl : (List Bl)) => [(8, vl), (10, vb)]) (fun (vl : Value) (lab : (List Int)) (vb : Value) (bl : (List Bl)) w' => M w (Nn) w' [Rg.blk b3 24 [i64 W, i64 Ht, vd], Rg.sl i64 3 vl lab, Rg.slF Bl.cells 7 38 vb bl] ∧ PInv (DD dk dark) (RR W eight dk dark) W dk.length (i + 1) lab bl) ?_ ?_
      ·
        refine C.block <| ?_

        refine C.chainE [(1, _), (2, _), (3, _), (8, _), (10, _), (11, _)] rfl [(43, .bool (decide (dk[i] = dark ∧ lab[i] < 0)))] ?_ ?_
        ·
          refine C.region <| ?_
          refine E.fld (o := 2) (sz := 0) rfl Try.underlying24 rfl rfl (by kernel_rfl) rfl ?_
          refine E.load rfl Try.underlying22 rfl (by first | exact hM.bcell 0 rfl rfl | exact hM.bcell 1 rfl rfl | exact hM.bcell 2 rfl rfl | exact hM.bcell 3 rfl rfl | exact hM.bcell 4 rfl rfl | exact hM.bcell 5 rfl rfl | exact hM.bcell 6 rfl rfl | exact hM.bcell 7 rfl rfl) rfl ?_
          refine E.mv rfl rfl <| ?_
          refine E.get (k := _) rfl rfl (by first | exact hM.sl 0 rfl | exact hM.sl 1 rfl | exact hM.sl 2 rfl | exact hM.sl 3 rfl | exact hM.sl 4 rfl | exact hM.sl 5 rfl | exact hM.sl 6 rfl | exact hM.sl 7 rfl | exact hM.arg0 (by assumption) | exact hM.arg (by assumption) (by assumption) | assumption) rfl (by first | omega | (simp only [List.length_replicate, List.length_append, List.length_set, List.length_cons, List.length_nil, List.length_map, List.length_range, List.length_take, List.length_drop, List.length_zipWith] at *; omega)) Try.underlying22 (by kernel_rfl) Try.underlying4 rfl rfl rfl ?_
          refine E.mv rfl rfl <| E.eqb rfl rfl Try.underlying4 rfl <| E.mv rfl rfl <| ?_
          refine E.split 37 rfl (fun g37 => ?_) (fun g37 => ?_)
          ·
            try simp only [decide_eq_true_eq, decide_eq_false_iff_not, ne_eq, Decidable.not_not] at g37
            refine E.on rfl rfl (E.mv rfl rfl ?_)
            refine E.on rfl rfl (E.mv rfl rfl ?_)
            refine E.on rfl rfl (E.idx1 (k := _) rfl rfl (by first | exact hM.sl 0 rfl | exact hM.sl 1 rfl | exact hM.sl 2 rfl | exact hM.sl 3 rfl | exact hM.sl 4 rfl | exact hM.sl 5 rfl | exact hM.sl 6 rfl | exact hM.sl 7 rfl | exact hM.arg0 (by assumption) | exact hM.arg (by assumption) (by assumption) | assumption) rfl (by first | omega | (simp only [List.length_replicate, List.length_append, List.length_set, List.length_cons, List.length_nil, List.length_map, List.length_range, List.length_take, List.length_drop, List.length_zipWith] at *; omega)) Try.underlying27 (by kernel_rfl) rfl ?_)
            refine E.on rfl rfl (E.load rfl Try.underlying3 rfl (by first | exact (hM.sl 0 rfl).cellA rfl (by first | omega | (simp only [List.length_replicate, List.length_append, List.length_set, List.length_cons, List.length_nil, List.length_map, List.length_range, List.length_take, List.length_drop, List.length_zipWith] at *; omega)) | exact (hM.sl 1 rfl).cellA rfl (by first | omega | (simp only [List.length_replicate, List.length_append, List.length_set, List.length_cons, List.length_nil, List.length_map, List.length_range, List.length_take, List.length_drop, List.length_zipWith] at *; omega)) | exact (hM.sl 2 rfl).cellA rfl (by first | omega | (simp only [List.length_replicate, List.length_append, List.length_set, List.length_cons, List.length_nil, List.length_map, List.length_range, List.length_take, List.length_drop, List.length_zipWith] at *; omega)) | exact (hM.sl 3 rfl).cellA rfl (by first | omega | (simp only [List.length_replicate, List.length_append, List.length_set, List.length_cons, List.length_nil, List.length_map, List.length_range, List.length_take, List.length_drop, List.length_zipWith] at *; omega)) | exact (hM.sl 4 rfl).cellA rfl (by first | omega | (simp only [List.length_replicate, List.length_append, List.length_set, List.length_cons, List.length_nil, List.length_map, List.length_range, List.length_take, List.length_drop, List.length_zipWith] at *; omega)) | exact (hM.sl 5 rfl).cellA rfl (by first | omega | (simp only [List.length_replicate, List.length_append, List.length_set, List.length_cons, List.length_nil, List.length_map, List.length_range, List.length_take, List.length_drop, List.length_zipWith] at *; omega)) | exact (hM.sl 6 rfl).cellA rfl (by first | omega | (simp only [List.length_replicate, List.length_append, List.length_set, List.length_cons, List.length_nil, List.length_map, List.length_range, List.length_take, List.length_drop, List.length_zipWith] at *; omega)) | exact (hM.sl 7 rfl).cellA rfl (by first | omega | (simp only [List.length_replicate, List.length_append, List.length_set, List.length_cons, List.length_nil, List.length_map, List.length_range, List.length_take, List.length_drop, List.length_zipWith] at *; omega)) | exact (hM.arg0 (by assumption)).cellA rfl (by first | omega | (simp only [List.length_replicate, List.length_append, List.length_set, List.length_cons, List.length_nil, List.length_map, List.length_range, List.length_take, List.length_drop, List.length_zipWith] at *; omega)) | exact (hM.arg (by assumption) (by assumption)).cellA rfl (by first | omega | (simp only [List.length_replicate, List.length_append, List.length_set, List.length_cons, List.length_nil, List.length_map, List.length_range, List.length_take, List.length_drop, List.length_zipWith] at *; omega))) rfl ?_)
            refine E.on rfl rfl (E.bin rfl rfl rfl rfl ?_)
            refine E.pick rfl rfl rfl <| E.nil <| X.join0 (Sub.cons (by (first | exact leaf_f (by omega) | exact leaf_t (by omega) | exact leaf_d (by omega) | exact leaf_f (by first | (simp [*] <;> fail) | omega) | exact leaf_t (by first | (simp [*] <;> fail) | omega) | exact leaf_d (by first | (simp [*] <;> fail) | omega) | exact leaf_f (by (first | omega | ((try simp only [decide_eq_true_eq, decide_eq_false_iff_not, Bool.not_eq_true', Bool.not_eq_false'] at *); first | omega | (simp_all <;> fail) | (simp_all; omega)))) | exact leaf_t (by (first | omega | ((try simp only [decide_eq_true_eq, decide_eq_false_iff_not, Bool.not_eq_true', Bool.not_eq_false'] at *); first | omega | (simp_all <;> fail) | (simp_all; omega)))) | exact leaf_d (by (first | omega | ((try simp only [decide_eq_true_eq, decide_eq_false_iff_not, Bool.not_eq_true', Bool.not_eq_false'] at *); first | omega | (simp_all <;> fail) | (simp_all; omega)))))) <| Sub.nil _) rfl rfl
          ·
            try simp only [decide_eq_true_eq, decide_eq_false_iff_not, ne_eq, Decidable.not_not] at g37
            refine E.off rfl rfl rfl rfl <| E.off rfl rfl rfl rfl <| E.off rfl rfl rfl rfl <| E.off rfl rfl rfl rfl <| E.off rfl rfl rfl rfl <| E.pick rfl rfl rfl <| E.nil <| X.join0 (Sub.cons (by (first | exact leaf_f (by omega) | exact leaf_t (by omega) | exact leaf_d (by omega) | exact leaf_f (by first | (simp [*] <;> fail) | omega) | exact leaf_t (by first | (simp [*] <;> fail) | omega) | exact leaf_d (by first | (simp [*] <;> fail) | omega) | exact leaf_f (by (first | omega | ((try simp only [decide_eq_true_eq, decide_eq_false_iff_not, Bool.not_eq_true', Bool.not_eq_false'] at *); first | omega | (simp_all <;> fail) | (simp_all; omega)))) | exact leaf_t (by (first | omega | ((try simp only [decide_eq_true_eq, decide_eq_false_iff_not, Bool.not_eq_true', Bool.not_eq_false'] at *); first | omega | (simp_all <;> fail) | (simp_all; omega)))) | exact leaf_d (by (first | omega | ((try simp only [decide_eq_true_eq, decide_eq_false_iff_not, Bool.not_eq_true', Bool.not_eq_false'] at *); first | omega | (simp_all <;> fail) | (simp_all; omega)))))) <| Sub.nil _) rfl rfl
        refine C.cond' rfl (fun hC2 => ?_) (fun hC2 => ?_)
        ·
          have hd : DD dk dark i := by show dk[i]? = _; rw [List.getElem?_eq_getElem hi', hC2.1]
          have hF : Fst (DD dk dark) (RR W eight dk dark) i := hP.first hi' Cl.refl (fun _ _ _ => Cl.trans) hd (List.getElem?_eq_getElem hil) hC2.2
          refine C.seq <| C.region <| E.asg rfl rfl <| E.nil <| X.next <| C.seq <| C.region <| ?_
          refine E.loadA rfl Try.underlying24 rfl (by kernel_rfl) (by first | exact hM.bat 0 rfl | exact hM.bat 1 rfl | exact hM.bat 2 rfl | exact hM.bat 3 rfl | exact hM.bat 4 rfl | exact hM.bat 5 rfl | exact hM.bat 6 rfl | exact hM.bat 7 rfl) rfl ?_
          refine E.mv rfl rfl <| E.mv rfl rfl <| E.mv rfl rfl <| ?_
          refine E.lenv rfl (RdF.shape (by first | exact hM.slF 0 rfl | exact hM.slF 1 rfl | exact hM.slF 2 rfl | exact hM.slF 3 rfl | exact hM.slF 4 rfl | exact hM.slF 5 rfl | exact hM.slF 6 rfl | exact hM.slF 7 rfl | exact hM.argF0 (by assumption) | exact hM.argF (by assumption) (by assumption) | assumption)) Try.underlying28 rfl ?_
          refine E.mv rfl rfl <| ?_
          have hvd : vl.ownBlock ≠ some (bs vd).1 := fun e => by
            have h1 := World.block_lt_of_cell? w _ (hr.cell hi')
            have h2 := (hM.mine 1 _ rfl _ e).elim (fun h => h.elim) id
            have : (bs vd).1 < w.heap.size := h1
            omega
          have hcls : ∀ j : Nat, dk[j]? = some dk[i] → Cl (Ed W eight dk dk[i] dk.length) i j → ∃ z, lab[j]? = some z ∧ z < 0 := fun j hj hc => by
            rw [hC2.1] at hj hc
            exact ⟨-1, hP.new j i (List.getElem?_eq_some_iff.1 hj).1 hj hF hc (Nat.le_refl _), by decide⟩
          refine E.call rfl rfl (spread_ret W Ht vd dk vl lab i (bl.length : Int) eight 0 _ hW hH hn hn0 (hM.arg0 hr) (hM.own 1 rfl) hvd hP.len hi' (by omega) hcls) ?_
          rintro _ w9 ⟨vf, lab1, found, rfl, ol, of, hL, g⟩
          have hM := hM.growNew 1 rfl ol of g
          try dsimp only [List.nil_append, List.cons_append, List.set_cons_zero, List.set_cons_succ, repl] at hM
          rw [hC2.1] at hL
          have hall := hL.all (by omega) hn
          have hfp : 0 < found.length := by have := List.mem_of_getElem? hL.head; exact List.length_pos_of_mem this
          have hf0 : found[0] = i := by have := hL.head; rw [List.getElem?_eq_getElem hfp] at this; exact Option.some.inj this
          have hfl := hL.le
          refine E.mv rfl rfl <| E.ext rfl rfl rfl <| E.ext rfl rfl rfl <| E.asg rfl rfl <| E.asg rfl rfl <| E.nil <| X.next <| C.region <| E.mv rfl rfl <| ?_
          refine E.loadA rfl Try.underlying24 rfl (by kernel_rfl) (by first | exact hM.bat 0 rfl | exact hM.bat 1 rfl | exact hM.bat 2 rfl | exact hM.bat 3 rfl | exact hM.bat 4 rfl | exact hM.bat 5 rfl | exact hM.bat 6 rfl | exact hM.bat 7 rfl) rfl ?_
          refine E.mv rfl rfl <| ?_
          refine E.call rfl rfl (rblob_ret W Ht vd vf found _ hW hH (hM.sl 3 rfl) hfp (by omega) (fun p hp => by have := (List.getElem?_eq_some_iff.1 ((hall p).1 hp).1).1; omega)) ?_
          rintro _ w10 ⟨b, rfl, hB, ha, hfx, hfy, m⟩
          have hM := hM.call m
          try dsimp only [List.nil_append, List.cons_append, List.set_cons_zero, List.set_cons_succ, repl] at hM
          first
            | refine E.pushFM 0 b hM rfl rfl rfl Try.underlying28 elem_Tapi_Blob rfl (by decide) (by simp [Bl.cells, Value.oneCell']) ?_ ?_ (by simp) rfl rfl ?_
            | refine E.pushFM 1 b hM rfl rfl rfl Try.underlying28 elem_Tapi_Blob rfl (by decide) (by simp [Bl.cells, Value.oneCell']) ?_ ?_ (by simp) rfl rfl ?_
            | refine E.pushFM 2 b hM rfl rfl rfl Try.underlying28 elem_Tapi_Blob rfl (by decide) (by simp [Bl.cells, Value.oneCell']) ?_ ?_ (by simp) rfl rfl ?_
            | refine E.pushFM 3 b hM rfl rfl rfl Try.underlying28 elem_Tapi_Blob rfl (by decide) (by simp [Bl.cells, Value.oneCell']) ?_ ?_ (by simp) rfl rfl ?_
            | refine E.pushFM 4 b hM rfl rfl rfl Try.underlying28 elem_Tapi_Blob rfl (by decide) (by simp [Bl.cells, Value.oneCell']) ?_ ?_ (by simp) rfl rfl ?_
            | refine E.pushFM 5 b hM rfl rfl rfl Try.underlying28 elem_Tapi_Blob rfl (by decide) (by simp [Bl.cells, Value.oneCell']) ?_ ?_ (by simp) rfl rfl ?_
            | refine E.pushFM 6 b hM rfl rfl rfl Try.underlying28 elem_Tapi_Blob rfl (by decide) (by simp [Bl.cells, Value.oneCell']) ?_ ?_ (by simp) rfl rfl ?_
            | refine E.pushFM 7 b hM rfl rfl rfl Try.underlying28 elem_Tapi_Blob rfl (by decide) (by simp [Bl.cells, Value.oneCell']) ?_ ?_ (by simp) rfl rfl ?_
          · exact (by first | omega | (simp only [List.length_replicate, List.length_append, List.length_set, List.length_cons, List.length_nil, List.length_map, List.length_range, List.length_take, List.length_drop, List.length_zipWith] at *; omega))
          · exact (by first | omega | (simp only [List.length_replicate, List.length_append, List.length_set, List.length_cons, List.length_nil, List.length_map, List.length_range, List.length_take, List.length_drop, List.length_zipWith] at *; omega))
          intro v59 u59 w6 hM
          try dsimp only [List.nil_append, List.cons_append, List.set_cons_zero, List.set_cons_succ, repl] at hM
          refine E.asg rfl rfl <| E.nil <| X.outN <| ?_
          have hmem : ∀ j, j ∈ found ↔ j < dk.length ∧ DD dk dark j ∧ RR W eight dk dark i j := fun j => by
            rw [hall j]
            exact ⟨fun h => ⟨(List.getElem?_eq_some_iff.1 h.1).1, h⟩, fun h => h.2⟩
          have hPn := hP.next (fun _ _ => Cl.symm) (fun _ _ _ => Cl.trans) hF (lab' := lab1) (by rw [hL.len, hP.len]) (fun j hj hD hR => by rw [hL.lab j, if_pos ((hmem j).2 ⟨hj, hD, hR⟩), List.getElem?_eq_getElem (by rw [hP.len]; exact hj), ← hnum]; rfl) (fun j hj hno => by rw [hL.lab j, if_neg (fun h => hno ((hmem j).1 h).2)]) (b := b) (Bx.spec hL.nodup hmem (fun _ _ => Cl.symm) Cl.refl hF hi' hB ha (by rw [hfx, hf0]) (by rw [hfy, hf0]))

          refine X.join4 _ lab1 _ (bl ++ [b]) (Sub.cons rfl <| Sub.cons rfl <| Sub.nil _) rfl ⟨hM.pick [0, 1, 2] (by decide), hPn⟩
        ·

          refine C.skip <| X.outN <| X.join4 vl lab vb bl (Sub.cons rfl <| Sub.cons rfl <| Sub.nil _) rfl ⟨hM, hP.skip hi' Cl.refl (fun ⟨h1, z, h2, h3⟩ => hC2 ⟨by have h1' : dk[i]? = some dark := h1; rw [List.getElem?_eq_getElem hi'] at h1'; exact Option.some.inj h1', by rw [List.getElem?_eq_getElem hil] at h2; cases h2; exact h3⟩)⟩
      rintro vl lab vb bl w7 ⟨hM, hP⟩
      refine C.region <| E.mv rfl rfl <| ?_
      refine E.add rfl rfl (by omega) rfl ?_

      refine E.asg rfl rfl <| E.nil <| X.again5 vl lab vb bl (i + 1) (Sub.cons rfl <| Sub.cons rfl <| Sub.cons rfl <| Sub.nil _) rfl ⟨hM, by omega, hP⟩ (by omega)
    ·
      obtain rfl : i = dk.length := by omega
      refine C.exit <| X.exitT <| X.exitT <| X.outE <| X.next <| C.seq <| C.region <| E.mv rfl rfl <| E.mv rfl rfl <| E.asg rfl rfl <| E.asg rfl rfl <| E.nil <| X.next <| C.ret <| ret2 rfl rfl rfl ?_
      exact ⟨vl, vb, lab, bl, rfl, hP.labelled Cl.refl (fun _ _ _ => Cl.trans), hM.pick [1, 2] (by decide)⟩

end Go.Proofs.Ytnnmebpahickhaa
