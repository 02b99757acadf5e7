/- Texts of the claim, laid together: SyM, GrM, PlM. -/
import Derived.Test.YtnnmebpahickhaaComponentsLocalTopMg28
/- law 38, Symmetric: turning, mirroring and enlarging keep the components. Plain mathematics. -/
namespace Go.Proofs.Ytnnmebpahickhaa
set_option linter.unusedSimpArgs false
set_option linter.unusedVariables false
open Go.RowKit Sym Uf Classical

/-- the areas of the dark components -/
noncomputable def ar8 (W : Nat) (dk : List Bool) : List Int := ars (DD dk true) (RR W true dk true) dk.length
structure Sy (W H : Nat) (dk : List Bool) (W' H' : Nat) (dk' : List Bool) : Prop where
  len : dk'.length = dk.length
  ar : (ar8 W' dk').Perm (ar8 W dk)
  nh : nh W' H' dk' = Go.Proofs.Ytnnmebpahickhaa.nh W H dk
theorem Sy.refl (W H : Nat) (dk : List Bool) : Sy W H dk W H dk := ⟨rfl, List.Perm.refl _, rfl⟩
theorem Sy.trans {W H W' H' W2 H2 : Nat} {dk dk' dk2 : List Bool} (h : Sy W H dk W' H' dk') (k : Sy W' H' dk' W2 H2 dk2) : Sy W H dk W2 H2 dk2 := ⟨k.len.trans h.len, k.ar.trans h.ar, k.nh.trans h.nh⟩
theorem Sy.nf {W H W' H' : Nat} {dk dk' : List Bool} (h : Sy W H dk W' H' dk') : nf (DD dk' true) (RR W' true dk' true) dk'.length = Go.Proofs.Ytnnmebpahickhaa.nf (DD dk true) (RR W true dk true) dk.length := by
  rw [← ars_len, ← ars_len]; exact h.ar.length_eq
/-- places of one bitmap and those of the other -/
structure Co (W H W' H' : Nat) (fx fy gx gy : Nat → Nat → Nat) : Prop where
  f : ∀ x y, x < W' → y < H' → fx x y < W ∧ fy x y < H
  g : ∀ x y, x < W → y < H → gx x y < W' ∧ gy x y < H'
  fg : ∀ x y, x < W → y < H → fx (gx x y) (gy x y) = x ∧ fy (gx x y) (gy x y) = y
  gf : ∀ x y, x < W' → y < H' → gx (fx x y) (fy x y) = x ∧ gy (fx x y) (fy x y) = y
  cn : ∀ e x y x2 y2, x < W' → y < H' → x2 < W' → y2 < H' → Cn e x y x2 y2 → Cn e (fx x y) (fy x y) (fx x2 y2) (fy x2 y2)
  cn' : ∀ e x y x2 y2, x < W → y < H → x2 < W → y2 < H → Cn e x y x2 y2 → Cn e (gx x y) (gy x y) (gx x2 y2) (gy x2 y2)
  bd : ∀ x y, x < W' → y < H' → ((x = 0 ∨ x + 1 = W' ∨ y = 0 ∨ y + 1 = H') ↔ (fx x y = 0 ∨ fx x y + 1 = W ∨ fy x y = 0 ∨ fy x y + 1 = H))
theorem Co.sy {W H W' H' : Nat} {fx fy gx gy : Nat → Nat → Nat} (h : Co W H W' H' fx fy gx gy) {dk dk' : List Bool} (hW : 0 < W) (hW' : 0 < W') (hn : dk.length = W * H) (hn' : dk'.length = W' * H') (hl : dk'.length = dk.length)
    (hdk : ∀ i, i < dk'.length → dk'[i]? = dk[fy (i % W') (i / W') * W + fx (i % W') (i / W')]?) : Sy W H dk W' H' dk' := by
  obtain ⟨φ, hφ⟩ : ∃ φ : Nat → Nat, φ = fun i => fy (i % W') (i / W') * W + fx (i % W') (i / W') := ⟨_, rfl⟩
  obtain ⟨ψ, hψ⟩ : ∃ ψ : Nat → Nat, ψ = fun p => gy (p % W) (p / W) * W' + gx (p % W) (p / W) := ⟨_, rfl⟩
  have hdk : ∀ i, i < dk'.length → dk'[i]? = dk[φ i]? := by rw [hφ]; exact hdk
  have in' : ∀ i, i < dk'.length → i % W' < W' ∧ i / W' < H' := fun i hi => ⟨Nat.mod_lt i hW', Nat.div_lt_of_lt_mul (by omega)⟩
  have in0 : ∀ p, p < dk.length → p % W < W ∧ p / W < H := fun i hi => ⟨Nat.mod_lt i hW, Nat.div_lt_of_lt_mul (by omega)⟩
  have cφ : ∀ i, i < dk'.length → φ i / W = fy (i % W') (i / W') ∧ φ i % W = fx (i % W') (i / W') ∧ φ i < dk.length := fun i hi => by
    obtain ⟨a, b⟩ := in' i hi
    obtain ⟨c, d⟩ := h.f _ _ a b
    obtain ⟨e1, e2⟩ := divmod_of (j := φ i) (W := W) (y := fy (i % W') (i / W')) (x := fx (i % W') (i / W')) (by rw [hφ]) c
    refine ⟨e1, e2, ?_⟩
    rw [hn, hφ]; exact row_lt c d
  have cψ : ∀ p, p < dk.length → ψ p / W' = gy (p % W) (p / W) ∧ ψ p % W' = gx (p % W) (p / W) ∧ ψ p < dk'.length := fun i hi => by
    obtain ⟨a, b⟩ := in0 i hi
    obtain ⟨c, d⟩ := h.g _ _ a b
    obtain ⟨e1, e2⟩ := divmod_of (j := ψ i) (W := W') (y := gy (i % W) (i / W)) (x := gx (i % W) (i / W)) (by rw [hψ]) c
    refine ⟨e1, e2, ?_⟩
    rw [hn', hψ]; exact row_lt c d
  have φψ : ∀ p, p < dk.length → φ (ψ p) = p := fun p hp => by
    obtain ⟨a, b, _⟩ := cψ p hp
    obtain ⟨c, d⟩ := in0 p hp
    obtain ⟨e1, e2⟩ := h.fg _ _ c d
    have : φ (ψ p) = fy (ψ p % W') (ψ p / W') * W + fx (ψ p % W') (ψ p / W') := by rw [hφ]
    rw [this, a, b, e1, e2]; exact Nat.div_add_mod' p W
  have ψφ : ∀ p, p < dk'.length → ψ (φ p) = p := fun p hp => by
    obtain ⟨a, b, _⟩ := cφ p hp
    obtain ⟨c, d⟩ := in' p hp
    obtain ⟨e1, e2⟩ := h.gf _ _ c d
    have : ψ (φ p) = gy (φ p % W) (φ p / W) * W' + gx (φ p % W) (φ p / W) := by rw [hψ]
    rw [this, a, b, e1, e2]; exact Nat.div_add_mod' p W'
  have lt : ∀ {l : List Bool} {d : Bool} {i : Nat}, l[i]? = some d → i < l.length := fun h => (List.getElem?_eq_some_iff.1 h).1
  have cov : Cov dk'.length dk.length 1 φ (fun p _ => ψ p) := {
    lt := fun i hi => (cφ i hi).2.2
    fl := fun p t hp _ => (cψ p hp).2.2
    fp := fun p t hp _ => φψ p hp
    of := fun i hi => ⟨0, by omega, ψφ i hi⟩
    inj := fun p t s _ ht hs _ => by omega }
  have hD : ∀ d i, DD dk' d i ↔ i < dk'.length ∧ DD dk d (φ i) := fun d i => ⟨fun h => ⟨lt h, by rw [DD, ← hdk i (lt h)]; exact h⟩, fun h => by rw [DD, hdk i h.1]; exact h.2⟩
  have hRf : ∀ e d i j, RR W' e dk' d i j → RR W e dk d (φ i) (φ j) := fun e d i j hR => rr_map hn' hW' (fun i j hi hj hc => by
    have li := lt hi
    have lj := lt hj
    obtain ⟨a1, a2⟩ := in' i li
    obtain ⟨b1, b2⟩ := in' j lj
    have := h.cn e _ _ _ _ a1 a2 b1 b2 hc
    rw [← (cφ i li).1, ← (cφ i li).2.1, ← (cφ j lj).1, ← (cφ j lj).2.1] at this
    exact rr_of_cn hn hW ((hD d i).1 hi).2 ((hD d j).1 hj).2 this) hR
  have hDb : ∀ d p, DD dk d p → DD dk' d (ψ p) := fun d p h => (hD d _).2 ⟨(cψ p (lt h)).2.2, by rw [φψ p (lt h)]; exact h⟩
  have hRb : ∀ e d p q, RR W e dk d p q → RR W' e dk' d (ψ p) (ψ q) := fun e d i j hR => rr_map hn hW (fun i j hi hj hc => by
    have li := lt hi
    have lj := lt hj
    obtain ⟨a1, a2⟩ := in0 i li
    obtain ⟨b1, b2⟩ := in0 j lj
    have := h.cn' e _ _ _ _ a1 a2 b1 b2 hc
    rw [← (cψ i li).1, ← (cψ i li).2.1, ← (cψ j lj).1, ← (cψ j lj).2.1] at this
    exact rr_of_cn hn' hW' (hDb d i hi) (hDb d j hj) this) hR
  have hR : ∀ e d i j, DD dk' d i → DD dk' d j → (RR W' e dk' d i j ↔ RR W e dk d (φ i) (φ j)) := fun e d i j hi hj => ⟨hRf e d i j, fun k => by have := hRb e d _ _ k; rwa [ψφ i (lt hi), ψφ j (lt hj)] at this⟩
  refine ⟨hl, ?_, ?_⟩
  · have := cov.ars (by omega) (hD true) (fun p h => lt h) (hR true true) Cl.refl (fun _ _ => Cl.symm) (fun _ _ _ => Cl.trans) Cl.refl (fun _ _ => Cl.symm) (fun _ _ _ => Cl.trans)
    simpa [ar8] using this
  · obtain ⟨g, _, hp⟩ := cov.first (by omega) (hD false) (fun p h => lt h) (hR false false) Cl.refl (fun _ _ => Cl.symm) (fun _ _ _ => Cl.trans) Cl.refl (fun _ _ => Cl.symm) (fun _ _ _ => Cl.trans)
    have hb : ∀ i, i < dk'.length → (Bord W' H' i ↔ Bord W H (φ i)) := fun i hi => by
      obtain ⟨a1, a2⟩ := in' i hi
      unfold Bord
      rw [(cφ i hi).1, (cφ i hi).2.1]
      exact h.bd _ _ a1 a2
    have := (hp (Hol W H dk) (Hol W' H' dk') (fun i hi => ?_) (fun i j hi hj hR hH => hH.of hj hR)).length_eq
    · rw [List.length_map] at this; exact this
    · constructor
      · rintro ⟨_, k⟩
        refine ⟨((hD false i).1 hi).2, fun p hp hR' hB => ?_⟩
        have hq := hDb false p hp
        refine k (ψ p) hq ((hR false false i _ hi hq).2 (by rw [φψ p (lt hp)]; exact hR')) ((hb _ (lt hq)).2 (by rw [φψ p (lt hp)]; exact hB))
      · rintro ⟨_, k⟩
        exact ⟨hi, fun j hj hR' hB => k (φ j) ((hD false j).1 hj).2 (hRf _ _ _ _ hR') ((hb j (lt hj)).1 hB)⟩
theorem co_mirror {W H : Nat} : Co W H W H (fun x _ => W - 1 - x) (fun _ y => y) (fun x _ => W - 1 - x) (fun _ y => y) where
  f x y hx hy := ⟨by omega, hy⟩
  g x y hx hy := ⟨by omega, hy⟩
  fg x y hx hy := ⟨by omega, rfl⟩
  gf x y hx hy := ⟨by omega, rfl⟩
  cn e x y x2 y2 h1 h2 h3 h4 h := by
    obtain ⟨a, b, c, d, k, l⟩ := h
    exact ⟨by omega, by omega, c, d, by omega, fun e => by have := l e; omega⟩
  cn' e x y x2 y2 h1 h2 h3 h4 h := by
    obtain ⟨a, b, c, d, k, l⟩ := h
    exact ⟨by omega, by omega, c, d, by omega, fun e => by have := l e; omega⟩
  bd x y hx hy := by omega
theorem co_turn {W H : Nat} : Co W H H W (fun _ y => y) (fun x _ => H - 1 - x) (fun _ y => H - 1 - y) (fun x _ => x) where
  f x y hx hy := ⟨hy, by omega⟩
  g x y hx hy := ⟨by omega, hx⟩
  fg x y hx hy := ⟨rfl, by omega⟩
  gf x y hx hy := ⟨by omega, rfl⟩
  cn e x y x2 y2 h1 h2 h3 h4 h := by
    obtain ⟨a, b, c, d, k, l⟩ := h
    exact ⟨c, d, by omega, by omega, by omega, fun e => by have := l e; omega⟩
  cn' e x y x2 y2 h1 h2 h3 h4 h := by
    obtain ⟨a, b, c, d, k, l⟩ := h
    exact ⟨by omega, by omega, a, b, by omega, fun e => by have := l e; omega⟩
  bd x y hx hy := by omega
end Go.Proofs.Ytnnmebpahickhaa

/- law 38, Local: graphs that lie in the plane: components, their number, and those of the dual graph. Plain mathematics. -/
namespace Go.Proofs.Ytnnmebpahickhaa
set_option linter.unusedSimpArgs false
set_option linter.unusedVariables false
open Uf Classical

/-- the number of classes, by a list of representatives -/
theorem nf_tr {D : Nat → Prop} {R : Nat → Nat → Prop} {n : Nat} (hr : ∀ i, R i i) (hs : ∀ i j, R i j → R j i) (ht : ∀ i j k, R i j → R j k → R i k) (hD : ∀ i, D i → i < n) {l : List Nat} (nd : l.Nodup) (hin : ∀ x ∈ l, D x)
    (hap : ∀ x ∈ l, ∀ y ∈ l, R x y → x = y) (hall : ∀ i, D i → ∃ x ∈ l, R x i) : nf D R n = l.length := by
  have hg : ∀ x, ∃ g, x ∈ l → Fst D R g ∧ R g x := fun x => by
    by_cases hx : x ∈ l
    · obtain ⟨f, _, h2, h3⟩ := first_of (D := D) (R := R) hr ht x (hin x hx)
      exact ⟨f, fun _ => ⟨h2, h3⟩⟩
    · exact ⟨0, fun h => (hx h).elim⟩
  obtain ⟨g, hg⟩ := Classical.axiomOfChoice hg
  have e : l.length = (l.map g).length := by rw [List.length_map]
  rw [nf_filter, e]
  refine same_len (List.nodup_range.sublist List.filter_sublist) (nodup_map_on nd fun x hx y hy h => ?_) fun z => ?_
  · have h1 := (hg x hx).2
    have h2 := (hg y hy).2
    rw [h] at h1
    exact hap x hx y hy (ht _ _ _ (hs _ _ h1) h2)
  · rw [List.mem_filter, List.mem_range, decide_eq_true_eq, List.mem_map]
    constructor
    · rintro ⟨_, hz⟩
      obtain ⟨x, hx, hR⟩ := hall z hz.1
      exact ⟨x, hx, first_eq hs ht (hg x hx).1 hz (ht _ _ _ (hg x hx).2 hR) (hr z)⟩
    · rintro ⟨x, hx, rfl⟩
      exact ⟨hD _ (hg x hx).1.1, (hg x hx).1⟩
/-- pairs of a list -/
def Pr (es : List (Nat × Nat)) (x y : Nat) : Prop := (x, y) ∈ es
/-- the number of components -/
noncomputable def cc (n : Nat) (es : List (Nat × Nat)) : Nat := nf (· < n) (Cl (Pr es)) n
theorem cc_tr {n : Nat} {es : List (Nat × Nat)} {l : List Nat} (nd : l.Nodup) (hin : ∀ x ∈ l, x < n) (hap : ∀ x ∈ l, ∀ y ∈ l, Cl (Pr es) x y → x = y) (hall : ∀ i, i < n → ∃ x ∈ l, Cl (Pr es) x i) : cc n es = l.length :=
  nf_tr Cl.refl (fun _ _ => Cl.symm) (fun _ _ _ => Cl.trans) (fun _ h => h) nd hin hap hall
theorem pr_nil {x y : Nat} (h : Cl (Pr []) x y) : x = y := by
  induction h with
  | refl i => rfl
  | edge e => exact absurd e (by simp [Pr])
  | symm _ ih => exact ih.symm
  | trans _ _ i1 i2 => exact i1.trans i2
theorem cc_nil (n : Nat) : cc n [] = n := by
  rw [cc_tr (l := List.range n) List.nodup_range (fun x hx => List.mem_range.1 hx) (fun x _ y _ h => pr_nil h) (fun i hi => ⟨i, List.mem_range.2 hi, Cl.refl i⟩), List.length_range]
theorem cc_one {n : Nat} {es : List (Nat × Nat)} {a : Nat} (ha : a < n) (h : ∀ i, i < n → Cl (Pr es) a i) : cc n es = 1 :=
  cc_tr (l := [a]) (by simp) (by simpa using ha) (by simp) (fun i hi => ⟨a, by simp, h i hi⟩)
theorem pr_cons {es : List (Nat × Nat)} {a b i j : Nat} : Cl (Pr ((a, b) :: es)) i j ↔ Cl (Pr es) i j ∨ (Cl (Pr es) i a ∧ Cl (Pr es) b j) ∨ (Cl (Pr es) i b ∧ Cl (Pr es) a j) := by
  rw [← Cl.add]
  have : Pr ((a, b) :: es) = fun x y => Pr es x y ∨ (x = a ∧ y = b) := by
    funext x y; apply propext; simp only [Pr, List.mem_cons, Prod.mk.injEq]; exact Or.comm
  rw [this]
theorem cc_same {n : Nat} {es : List (Nat × Nat)} {a b : Nat} (h : Cl (Pr es) a b) : cc n ((a, b) :: es) = cc n es := by
  have : Cl (Pr ((a, b) :: es)) = Cl (Pr es) := by
    funext i j; apply propext
    rw [pr_cons]
    exact ⟨fun k => k.elim id fun k => k.elim (fun k => (k.1.trans h).trans k.2) (fun k => (k.1.trans h.symm).trans k.2), .inl⟩
  unfold cc; rw [this]
theorem cc_less {n : Nat} {es : List (Nat × Nat)} {a b : Nat} (ha : a < n) (hb : b < n) (h : ¬ Cl (Pr es) a b) : cc n ((a, b) :: es) + 1 = cc n es := by
  obtain ⟨fb, _, hfb, hb'⟩ := first_of (D := (· < n)) (R := Cl (Pr es)) Cl.refl (fun _ _ _ => Cl.trans) b hb
  obtain ⟨fa, _, hfa, ha'⟩ := first_of (D := (· < n)) (R := Cl (Pr es)) Cl.refl (fun _ _ _ => Cl.trans) a ha
  have feq : ∀ {x y : Nat}, Fst (· < n) (Cl (Pr es)) x → Fst (· < n) (Cl (Pr es)) y → Cl (Pr es) x y → x = y := fun hx hy hR => first_eq (R := Cl (Pr es)) (fun _ _ => Cl.symm) (fun _ _ _ => Cl.trans) hx hy hR (Cl.refl _)
  have hne : fa ≠ fb := fun e => h (ha'.symm.trans (e ▸ hb'))
  have hl : ((List.range n).filter fun i => decide (Fst (· < n) (Cl (Pr es)) i)).Nodup := List.nodup_range.sublist List.filter_sublist
  have hm : ∀ x, x ∈ ((List.range n).filter fun i => decide (Fst (· < n) (Cl (Pr es)) i)) ↔ Fst (· < n) (Cl (Pr es)) x := fun x => by
    rw [List.mem_filter, List.mem_range, decide_eq_true_eq]; exact ⟨fun k => k.2, fun k => ⟨k.1, k⟩⟩
  have hcc : cc n es = ((List.range n).filter fun i => decide (Fst (· < n) (Cl (Pr es)) i)).length := nf_filter n
  generalize ((List.range n).filter fun i => decide (Fst (· < n) (Cl (Pr es)) i)) = F at hl hm hcc
  have hF : fb ∈ F := (hm fb).2 hfb
  have hpos : 0 < F.length := List.length_pos_of_mem hF
  have e : cc n ((a, b) :: es) = (F.erase fb).length := by
    refine cc_tr (hl.erase _) (fun x hx => ((hm x).1 (List.mem_of_mem_erase hx)).1) (fun x hx y hy hR => ?_) fun i hi => ?_
    · rw [hl.mem_erase_iff] at hx hy
      have fx := (hm x).1 hx.2
      have fy := (hm y).1 hy.2
      rcases pr_cons.1 hR with k | ⟨k1, k2⟩ | ⟨k1, k2⟩
      · exact feq fx fy k
      · exact (hy.1 (feq fy hfb (k2.symm.trans hb'.symm))).elim
      · exact (hx.1 (feq fx hfb (k1.trans hb'.symm))).elim
    · obtain ⟨f, _, h2, h3⟩ := first_of (D := (· < n)) (R := Cl (Pr es)) Cl.refl (fun _ _ _ => Cl.trans) i hi
      by_cases ef : f = fb
      · subst ef
        exact ⟨fa, hl.mem_erase_iff.2 ⟨hne, (hm fa).2 hfa⟩, pr_cons.2 (.inr (.inl ⟨ha', hb'.symm.trans h3⟩))⟩
      · exact ⟨f, hl.mem_erase_iff.2 ⟨ef, (hm f).2 h2⟩, pr_cons.2 (.inl h3)⟩
  rw [e, hcc, List.length_erase_of_mem hF]; omega
theorem cc_le {n : Nat} {es : List (Nat × Nat)} {a b : Nat} (ha : a < n) (hb : b < n) : cc n es ≤ cc n ((a, b) :: es) + 1 := by
  by_cases h : Cl (Pr es) a b
  · rw [cc_same h]; omega
  · rw [cc_less ha hb h]; omega

/-- an edge: its ends, and the faces on its two sides -/
structure Eg where
  u : Nat
  v : Nat
  f : Nat
  g : Nat
def Eg.pr (e : Eg) : Nat × Nat := (e.u, e.v)
def Eg.du (e : Eg) : Nat × Nat := (e.f, e.g)
/-- an odd number of them -/
def bx (l : List Bool) : Bool := l.foldr xor false
theorem bx_cons (a : Bool) (l : List Bool) : bx (a :: l) = xor a (bx l) := rfl
theorem bx_app (l m : List Bool) : bx (l ++ m) = xor (bx l) (bx m) := by
  induction l with
  | nil => simp [bx]
  | cons a l ih => rw [List.cons_append, bx_cons, bx_cons, ih, Bool.xor_assoc]
theorem bx_perm {l m : List Bool} (h : l.Perm m) : bx l = bx m := by
  induction h with
  | nil => rfl
  | cons a _ ih => rw [bx_cons, bx_cons, ih]
  | swap a b l => rw [bx_cons, bx_cons, bx_cons, bx_cons, Bool.xor_left_comm]
  | trans _ _ i1 i2 => exact i1.trans i2
theorem bx_false {l : List Bool} (h : ∀ b ∈ l, b = false) : bx l = false := by
  induction l with
  | nil => rfl
  | cons a l ih => rw [bx_cons, ih fun b hb => h b (by simp [hb]), h a (by simp)]; rfl
def crs (X K : Nat → Bool) (e : Eg) : Bool := (X e.f ^^ X e.g) && (K e.u ^^ K e.v)
/-- a graph in the plane -/
structure Pl (n m : Nat) (L : List Eg) : Prop where
  lt : ∀ e ∈ L, e.u < n ∧ e.v < n ∧ e.f < m ∧ e.g < m
  par : ∀ X K : Nat → Bool, bx (L.map (crs X K)) = false
  con : cc n (L.map Eg.pr) = 1
  dcon : cc m (L.map Eg.du) = 1
  num : L.length + 2 = n + m
theorem cc_perm {n : Nat} {es fs : List (Nat × Nat)} (h : es.Perm fs) : cc n es = cc n fs := by
  have : Pr es = Pr fs := by funext x y; exact propext h.mem_iff
  unfold cc; rw [this]
theorem cl_keep {es : List (Nat × Nat)} {u x y : Nat} (h : (x, y) ∈ es) : decide (Cl (Pr es) u x) = decide (Cl (Pr es) u y) :=
  decide_eq_decide.2 ⟨fun k => k.trans (.edge h), fun k => k.trans (.symm (.edge h))⟩
/-- an edge that joins two components of A lies between one component of the dual graph, and the other way round -/
theorem Pl.both {n m : Nat} {L : List Eg} (h : Pl n m L) {A Q : List Eg} {e : Eg} (hp : (A ++ e :: Q).Perm L) (h1 : ¬ Cl (Pr (A.map Eg.pr)) e.u e.v) (h2 : ¬ Cl (Pr (Q.map Eg.du)) e.f e.g) : False := by
  have hpar := h.par (fun y => decide (Cl (Pr (Q.map Eg.du)) e.f y)) (fun x => decide (Cl (Pr (A.map Eg.pr)) e.u x))
  rw [← bx_perm (hp.map _), List.map_append, List.map_cons, bx_app, bx_cons, bx_false (l := A.map _), bx_false (l := Q.map _)] at hpar
  · simp [crs, h1, h2, Cl.refl] at hpar
  · intro b hb
    obtain ⟨q, hq, rfl⟩ := List.mem_map.1 hb
    simp only [crs]
    rw [cl_keep (es := Q.map Eg.du) (u := e.f) (x := q.f) (y := q.g) (List.mem_map.2 ⟨q, hq, rfl⟩)]; simp
  · intro b hb
    obtain ⟨q, hq, rfl⟩ := List.mem_map.1 hb
    simp only [crs]
    rw [cl_keep (es := A.map Eg.pr) (u := e.u) (x := q.u) (y := q.v) (List.mem_map.2 ⟨q, hq, rfl⟩)]; simp
theorem Pl.step {n m : Nat} {L : List Eg} (h : Pl n m L) {A Q : List Eg} {e : Eg} (hp : (A ++ e :: Q).Perm L) :
    cc n (A.map Eg.pr) + cc m (Q.map Eg.du) ≤ cc n ((e :: A).map Eg.pr) + 1 + cc m ((e :: Q).map Eg.du) := by
  obtain ⟨l1, l2, l3, l4⟩ := h.lt e (hp.mem_iff.1 (by simp))
  rw [List.map_cons, List.map_cons]
  show _ ≤ cc n ((e.u, e.v) :: _) + 1 + cc m ((e.f, e.g) :: _)
  have k1 := cc_le (es := A.map Eg.pr) l1 l2
  have k2 := cc_le (es := Q.map Eg.du) l3 l4
  by_cases h1 : Cl (Pr (A.map Eg.pr)) e.u e.v
  · rw [cc_same h1]; omega
  · by_cases h2 : Cl (Pr (Q.map Eg.du)) e.f e.g
    · rw [cc_same h2]; omega
    · exact (h.both hp h1 h2).elim
theorem perm_move {A Q : List Eg} {e : Eg} : (A ++ e :: Q).Perm (e :: A ++ Q) := List.perm_middle
/-- Euler's formula for a part of the edges -/
theorem Pl.euler {n m : Nat} {L : List Eg} (h : Pl n m L) {A Q : List Eg} (hp : (A ++ Q).Perm L) : cc n (A.map Eg.pr) + A.length + 1 = n + cc m (Q.map Eg.du) := by
  have lo : ∀ (A Q : List Eg), (A ++ Q).Perm L → n + cc m (Q.map Eg.du) ≤ cc n (A.map Eg.pr) + A.length + 1 := by
    intro A
    induction A with
    | nil =>
      intro Q hp
      rw [List.nil_append] at hp
      rw [cc_perm (hp.map Eg.du), h.dcon, List.map_nil, cc_nil]; simp
    | cons e A ih =>
      intro Q hp
      have hp' := perm_move.trans hp
      have k1 := ih (e :: Q) hp'
      have k2 := h.step hp'
      rw [List.length_cons]; omega
  have hi : ∀ (Q A : List Eg), (A ++ Q).Perm L → cc n (A.map Eg.pr) + A.length + 1 ≤ n + cc m (Q.map Eg.du) := by
    intro Q
    induction Q with
    | nil =>
      intro A hp
      rw [List.append_nil] at hp
      rw [cc_perm (hp.map Eg.pr), h.con, hp.length_eq, List.map_nil, cc_nil]; have := h.num; omega
    | cons e Q ih =>
      intro A hp
      have k1 := ih (e :: A) (perm_move.symm.trans hp)
      have k2 := h.step hp
      rw [List.length_cons] at k1; omega
  exact Nat.le_antisymm (hi Q A hp) (lo A Q hp)
end Go.Proofs.Ytnnmebpahickhaa

/- law 38, Local: the grid of the corners of pixels lies in the plane; sums over it. Plain mathematics. -/
namespace Go.Proofs.Ytnnmebpahickhaa
set_option linter.unusedSimpArgs false
set_option linter.unusedVariables false
open Uf Classical

def pt (W i j : Nat) : Nat := j * (W + 1) + i
/-- the pixel in column i and row j, both from 1 on; else what lies outside -/
def fc (W H i j : Nat) : Nat := if 1 ≤ i ∧ i ≤ W ∧ 1 ≤ j ∧ j ≤ H then (j - 1) * W + (i - 1) else W * H
def hz (W H i j : Nat) : Eg := ⟨pt W i j, pt W (i + 1) j, fc W H (i + 1) j, fc W H (i + 1) (j + 1)⟩
def vt (W H i j : Nat) : Eg := ⟨pt W i j, pt W i (j + 1), fc W H i (j + 1), fc W H (i + 1) (j + 1)⟩
def egs (W H : Nat) : List Eg := ((List.range (H + 1)).flatMap fun j => (List.range W).map fun i => hz W H i j) ++ ((List.range H).flatMap fun j => (List.range (W + 1)).map fun i => vt W H i j)
theorem egs_mem {W H : Nat} {e : Eg} : e ∈ egs W H ↔ (∃ i j, i < W ∧ j ≤ H ∧ e = hz W H i j) ∨ (∃ i j, i ≤ W ∧ j < H ∧ e = vt W H i j) := by
  unfold egs
  rw [List.mem_append, List.mem_flatMap, List.mem_flatMap]
  refine or_congr ⟨fun ⟨j, hj, h⟩ => ?_, fun ⟨i, j, hi, hj, h⟩ => ⟨j, List.mem_range.2 (by omega), List.mem_map.2 ⟨i, List.mem_range.2 hi, h.symm⟩⟩⟩ ⟨fun ⟨j, hj, h⟩ => ?_, fun ⟨i, j, hi, hj, h⟩ => ⟨j, List.mem_range.2 hj, List.mem_map.2 ⟨i, List.mem_range.2 (by omega), h.symm⟩⟩⟩
  · obtain ⟨i, hi, rfl⟩ := List.mem_map.1 h
    have := List.mem_range.1 hi; have := List.mem_range.1 hj
    exact ⟨i, j, by omega, by omega, rfl⟩
  · obtain ⟨i, hi, rfl⟩ := List.mem_map.1 h
    have := List.mem_range.1 hi; have := List.mem_range.1 hj
    exact ⟨i, j, by omega, by omega, rfl⟩
theorem pt_lt {W H i j : Nat} (hi : i ≤ W) (hj : j ≤ H) : pt W i j < (W + 1) * (H + 1) := by
  unfold pt
  have := Nat.mul_le_mul_right (W + 1) (show j + 1 ≤ H + 1 by omega)
  rw [Nat.succ_mul] at this
  rw [Nat.mul_comm (W + 1) (H + 1)]; omega
theorem fc_le (W H i j : Nat) : fc W H i j < W * H + 1 := by
  unfold fc
  split
  · rename_i h
    have := Nat.mul_le_mul_right W (show j - 1 + 1 ≤ H by omega)
    rw [Nat.succ_mul] at this
    rw [Nat.mul_comm W H]; omega
  · omega
theorem fc_out {W H i j : Nat} (h : ¬ (1 ≤ i ∧ i ≤ W ∧ 1 ≤ j ∧ j ≤ H)) : fc W H i j = W * H := by unfold fc; rw [if_neg h]
/-! sums -/
def sx : Nat → (Nat → Bool) → Bool
  | 0, _ => false
  | n + 1, f => sx n f ^^ f n
theorem sx_congr {n : Nat} {f g : Nat → Bool} (h : ∀ i, i < n → f i = g i) : sx n f = sx n g := by
  induction n with
  | zero => rfl
  | succ n ih => rw [sx, sx, ih fun i hi => h i (by omega), h n (by omega)]
theorem sx_add (n : Nat) (f g : Nat → Bool) : sx n (fun i => f i ^^ g i) = (sx n f ^^ sx n g) := by
  induction n with
  | zero => rfl
  | succ n ih => rw [sx, sx, sx, ih]; cases sx n f <;> cases sx n g <;> cases f n <;> cases g n <;> rfl
theorem sx_shift (n : Nat) (f : Nat → Bool) : sx (n + 1) f = (f 0 ^^ sx n fun i => f (i + 1)) := by
  induction n with
  | zero => simp [sx]
  | succ n ih => rw [sx, ih, sx, Bool.xor_assoc]
theorem sx_false (n : Nat) : sx n (fun _ => false) = false := by
  induction n with
  | zero => rfl
  | succ n ih => rw [sx, ih]; rfl
theorem sx_swap (n m : Nat) (f : Nat → Nat → Bool) : (sx n fun j => sx m fun i => f i j) = sx m fun i => sx n fun j => f i j := by
  induction n with
  | zero => show false = sx m fun _ => false; rw [sx_false]
  | succ n ih => rw [sx, ih, ← sx_add]; rfl
theorem sx_row {W : Nat} {c k : Nat → Bool} (h0 : c 0 = false) (h1 : c (W + 1) = false) : sx W (fun i => c (i + 1) && (k i ^^ k (i + 1))) = sx (W + 1) fun i => (c i ^^ c (i + 1)) && k i := by
  have e1 : sx (W + 1) (fun i => (c i ^^ c (i + 1)) && k i) = (sx (W + 1) (fun i => c i && k i) ^^ sx (W + 1) fun i => c (i + 1) && k i) := by
    rw [← sx_add]; exact sx_congr fun i _ => by cases c i <;> cases c (i + 1) <;> cases k i <;> rfl
  have e2 : sx W (fun i => c (i + 1) && (k i ^^ k (i + 1))) = ((sx W fun i => c (i + 1) && k i) ^^ sx W fun i => c (i + 1) && k (i + 1)) := by
    rw [← sx_add]; exact sx_congr fun i _ => by cases c (i + 1) <;> cases k i <;> cases k (i + 1) <;> rfl
  rw [e1, e2, sx_shift W fun i => c i && k i, h0, sx, h1]
  simp only [Bool.false_and, Bool.false_xor, Bool.xor_false]
  exact Bool.xor_comm _ _
theorem bx_range (n : Nat) (f : Nat → Bool) : bx ((List.range n).map f) = sx n f := by
  induction n with
  | zero => rfl
  | succ n ih => rw [List.range_succ, List.map_append, bx_app, ih, sx]; simp [bx]
theorem bx_flat {α : Type} (n : Nat) (l : Nat → List α) (f : α → Bool) : bx (((List.range n).flatMap l).map f) = sx n fun j => bx ((l j).map f) := by
  induction n with
  | zero => rfl
  | succ n ih => rw [List.range_succ, List.flatMap_append, List.map_append, bx_app, ih, sx]; simp
theorem egs_par (W H : Nat) (X K : Nat → Bool) : bx ((egs W H).map (crs X K)) = false := by
  unfold egs
  rw [List.map_append, bx_app, bx_flat, bx_flat]
  have e1 : (sx (H + 1) fun j => bx (((List.range W).map fun i => hz W H i j).map (crs X K))) = sx (H + 1) fun j => sx (W + 1) fun i => ((X (fc W H i j) ^^ X (fc W H i (j + 1))) ^^ (X (fc W H (i + 1) j) ^^ X (fc W H (i + 1) (j + 1)))) && K (pt W i j) := by
    refine sx_congr fun j _ => ?_
    rw [List.map_map, bx_range]
    refine Eq.trans ?_ (sx_row (W := W) (c := fun i => X (fc W H i j) ^^ X (fc W H i (j + 1))) (k := fun i => K (pt W i j)) ?_ ?_)
    · exact sx_congr fun i _ => rfl
    · rw [fc_out (by omega), fc_out (by omega)]; simp
    · rw [fc_out (by omega), fc_out (by omega)]; simp
  have e2 : (sx H fun j => bx (((List.range (W + 1)).map fun i => vt W H i j).map (crs X K))) = sx (H + 1) fun j => sx (W + 1) fun i => ((X (fc W H i j) ^^ X (fc W H (i + 1) j)) ^^ (X (fc W H i (j + 1)) ^^ X (fc W H (i + 1) (j + 1)))) && K (pt W i j) := by
    rw [sx_swap (H + 1) (W + 1) fun i j => ((X (fc W H i j) ^^ X (fc W H (i + 1) j)) ^^ (X (fc W H i (j + 1)) ^^ X (fc W H (i + 1) (j + 1)))) && K (pt W i j)]
    have : (sx H fun j => bx (((List.range (W + 1)).map fun i => vt W H i j).map (crs X K))) = sx H fun j => sx (W + 1) fun i => crs X K (vt W H i j) := sx_congr fun j _ => by rw [List.map_map, bx_range]; rfl
    rw [this, sx_swap H (W + 1) fun i j => crs X K (vt W H i j)]
    refine sx_congr fun i _ => ?_
    refine Eq.trans ?_ (sx_row (W := H) (c := fun j => X (fc W H i j) ^^ X (fc W H (i + 1) j)) (k := fun j => K (pt W i j)) ?_ ?_)
    · exact sx_congr fun j _ => rfl
    · rw [fc_out (by omega), fc_out (by omega)]; simp
    · rw [fc_out (by omega), fc_out (by omega)]; simp
  rw [e1, e2, ← sx_add]
  refine Eq.trans (sx_congr fun j _ => ?_) (sx_false (H + 1))
  rw [← sx_add]
  refine Eq.trans (sx_congr fun i _ => ?_) (sx_false (W + 1))
  cases X (fc W H i j) <;> cases X (fc W H i (j + 1)) <;> cases X (fc W H (i + 1) j) <;> cases X (fc W H (i + 1) (j + 1)) <;> cases K (pt W i j) <;> rfl
theorem pt_of {W H v : Nat} (hv : v < (W + 1) * (H + 1)) : ∃ i j, i ≤ W ∧ j ≤ H ∧ v = pt W i j := by
  refine ⟨v % (W + 1), v / (W + 1), ?_, ?_, ?_⟩
  · have := Nat.mod_lt v (show 0 < W + 1 by omega); omega
  · have := Nat.div_lt_of_lt_mul hv; omega
  · unfold pt; rw [Nat.mul_comm, Nat.div_add_mod]
theorem fc_of {W H f : Nat} (hf : f < W * H) : ∃ i j, i < W ∧ j < H ∧ f = fc W H (i + 1) (j + 1) := by
  have hW : 0 < W := Nat.pos_of_ne_zero fun e => by rw [e, Nat.zero_mul] at hf; omega
  have h1 := Nat.mod_lt f hW
  have h2 := Nat.div_lt_of_lt_mul hf
  refine ⟨f % W, f / W, h1, h2, ?_⟩
  unfold fc
  rw [if_pos ⟨Nat.le_add_left _ _, h1, Nat.le_add_left _ _, h2⟩]
  have := Nat.div_add_mod f W
  rw [Nat.add_sub_cancel, Nat.add_sub_cancel, Nat.mul_comm]; omega
theorem egs_pl (W H : Nat) (hH : 0 < H) : Pl ((W + 1) * (H + 1)) (W * H + 1) (egs W H) where
  lt e he := by
    rcases egs_mem.1 he with ⟨i, j, hi, hj, rfl⟩ | ⟨i, j, hi, hj, rfl⟩
    · exact ⟨pt_lt (by omega) hj, pt_lt (by omega) hj, fc_le .., fc_le ..⟩
    · exact ⟨pt_lt hi (by omega), pt_lt hi (by omega), fc_le .., fc_le ..⟩
  par := egs_par W H
  con := by
    have hzE : ∀ {i j}, i < W → j ≤ H → Cl (Pr ((egs W H).map Eg.pr)) (pt W i j) (pt W (i + 1) j) := fun hi hj => .edge (List.mem_map.2 ⟨_, egs_mem.2 (.inl ⟨_, _, hi, hj, rfl⟩), rfl⟩)
    have vtE : ∀ {i j}, i ≤ W → j < H → Cl (Pr ((egs W H).map Eg.pr)) (pt W i j) (pt W i (j + 1)) := fun hi hj => .edge (List.mem_map.2 ⟨_, egs_mem.2 (.inr ⟨_, _, hi, hj, rfl⟩), rfl⟩)
    refine cc_one (a := pt W 0 0) (pt_lt (by omega) (by omega)) fun v hv => ?_
    obtain ⟨i, j, hi, hj, rfl⟩ := pt_of hv
    have c1 : ∀ j, j ≤ H → Cl (Pr ((egs W H).map Eg.pr)) (pt W 0 0) (pt W 0 j) := by
      intro j
      induction j with
      | zero => intro _; exact .refl _
      | succ j ih => intro h; exact (ih (by omega)).trans (vtE (by omega) (by omega))
    have c2 : ∀ i, i ≤ W → Cl (Pr ((egs W H).map Eg.pr)) (pt W 0 j) (pt W i j) := by
      intro i
      induction i with
      | zero => intro _; exact .refl _
      | succ i ih => intro h; exact (ih (by omega)).trans (hzE (by omega) hj)
    exact (c1 j hj).trans (c2 i hi)
  dcon := by
    refine cc_one (a := W * H) (by omega) fun f hf => ?_
    by_cases e : f = W * H
    · subst e; exact .refl _
    obtain ⟨i, j, hi, hj, rfl⟩ := fc_of (W := W) (H := H) (f := f) (by omega)
    have c1 : ∀ j, j ≤ H → Cl (Pr ((egs W H).map Eg.du)) (W * H) (fc W H (i + 1) j) := by
      intro j
      induction j with
      | zero => intro _; rw [fc_out (by omega)]; exact .refl _
      | succ j ih => intro h; exact (ih (by omega)).trans (.edge (List.mem_map.2 ⟨hz W H i j, egs_mem.2 (.inl ⟨_, _, hi, by omega, rfl⟩), rfl⟩))
    exact c1 (j + 1) (by omega)
  num := by
    unfold egs
    have flen : ∀ (n m : Nat) (f : Nat → Nat → Eg), ((List.range n).flatMap fun j => (List.range m).map fun i => f i j).length = n * m := by
      intro n m f
      induction n with
      | zero => simp
      | succ n ih => rw [List.range_succ, List.flatMap_append, List.length_append, ih, Nat.succ_mul]; simp
    rw [List.length_append, flen, flen, Nat.succ_mul, Nat.mul_succ, Nat.succ_mul, Nat.mul_succ, Nat.mul_comm H W]; omega
/-! sums of numbers -/
def si : Nat → (Nat → Int) → Int
  | 0, _ => 0
  | n + 1, f => si n f + f n
theorem si_congr {n : Nat} {f g : Nat → Int} (h : ∀ i, i < n → f i = g i) : si n f = si n g := by
  induction n with
  | zero => rfl
  | succ n ih => rw [si, si, ih fun i hi => h i (by omega), h n (by omega)]
theorem si_add (n : Nat) (f g : Nat → Int) : si n (fun i => f i + g i) = si n f + si n g := by
  induction n with
  | zero => rfl
  | succ n ih => rw [si, si, si, ih]; omega
theorem si_mul (n : Nat) (c : Int) (f : Nat → Int) : si n (fun i => c * f i) = c * si n f := by
  induction n with
  | zero => simp [si]
  | succ n ih => rw [si, si, ih, Int.mul_add]
theorem si_shift (n : Nat) (f : Nat → Int) : si (n + 1) f = f 0 + si n fun i => f (i + 1) := by
  induction n with
  | zero => simp [si]
  | succ n ih => rw [si, ih, si]; omega
theorem si_zero (n : Nat) : si n (fun _ => 0) = 0 := by
  induction n with
  | zero => rfl
  | succ n ih => rw [si, ih]; rfl
theorem si_swap (n m : Nat) (f : Nat → Nat → Int) : (si n fun j => si m fun i => f i j) = si m fun i => si n fun j => f i j := by
  induction n with
  | zero => show 0 = si m fun _ => 0; rw [si_zero]
  | succ n ih => rw [si, ih, ← si_add]; rfl
theorem si_row {W : Nat} {h : Nat → Int} (h0 : h 0 = 0) (h1 : h (W + 1) = 0) : si (W + 1) (fun i => h i + h (i + 1)) = 2 * si W fun i => h (i + 1) := by
  rw [si_add, si_shift, si, h0, h1]; omega
theorem si_app (m n : Nat) (f : Nat → Int) : si (m + n) f = si m f + si n fun i => f (m + i) := by
  induction n with
  | zero => simp [si]
  | succ n ih => rw [← Nat.add_assoc, si, ih, si]; omega
theorem si_grid (b a : Nat) (f : Nat → Int) : si (b * a) f = si b fun j => si a fun i => f (j * a + i) := by
  induction b with
  | zero => rw [Nat.zero_mul]; rfl
  | succ b ih => rw [Nat.succ_mul, si_app, ih, si]
def b01 (b : Bool) : Int := bif b then 1 else 0
theorem si_filter (n : Nat) (p : Nat → Bool) : (((List.range n).filter p).length : Int) = si n fun i => b01 (p i) := by
  induction n with
  | zero => rfl
  | succ n ih => rw [List.range_succ, List.filter_append, List.length_append, Int.natCast_add, ih, si]; cases h : p n <;> simp [h, b01]
theorem si_flat {α : Type} (n : Nat) (l : Nat → List α) (p : α → Bool) : ((((List.range n).flatMap l).filter p).length : Int) = si n fun j => (((l j).filter p).length : Int) := by
  induction n with
  | zero => rfl
  | succ n ih => rw [List.range_succ, List.flatMap_append, List.filter_append, List.length_append, Int.natCast_add, ih, si]; simp
theorem si_fmap (n : Nat) (f : Nat → Eg) (p : Eg → Bool) : ((((List.range n).map f).filter p).length : Int) = si n fun i => b01 (p (f i)) := by
  rw [← si_filter, List.filter_map, List.length_map]; rfl
/-- what a square of four pixels adds -/
def q4 (a b c d : Bool) : Int := 4 * b01 (a || b || c || d) - 2 * (b01 (a || c) + b01 (b || d) + b01 (a || b) + b01 (c || d)) + (b01 a + b01 b + b01 c + b01 d)
/-- the local count: d is dark, outside is not -/
theorem local_count (W H : Nat) (d : Nat → Bool) (h0 : d (W * H) = false) :
    4 * (si ((H + 1) * (W + 1)) (fun v => b01 (d (fc W H (v % (W + 1)) (v / (W + 1))) || d (fc W H (v % (W + 1) + 1) (v / (W + 1))) || d (fc W H (v % (W + 1)) (v / (W + 1) + 1)) || d (fc W H (v % (W + 1) + 1) (v / (W + 1) + 1)))) + si (H * W) (fun f => b01 (d f)) - (((egs W H).filter fun e => d e.f || d e.g).length : Int))
      = si (H + 1) fun j => si (W + 1) fun i => q4 (d (fc W H i j)) (d (fc W H (i + 1) j)) (d (fc W H i (j + 1))) (d (fc W H (i + 1) (j + 1))) := by
  have eV : si ((H + 1) * (W + 1)) (fun v => b01 (d (fc W H (v % (W + 1)) (v / (W + 1))) || d (fc W H (v % (W + 1) + 1) (v / (W + 1))) || d (fc W H (v % (W + 1)) (v / (W + 1) + 1)) || d (fc W H (v % (W + 1) + 1) (v / (W + 1) + 1)))) = si (H + 1) fun j => si (W + 1) fun i => b01 (d (fc W H i j) || d (fc W H (i + 1) j) || d (fc W H i (j + 1)) || d (fc W H (i + 1) (j + 1))) := by
    rw [si_grid]
    refine si_congr fun j _ => si_congr fun i hi => ?_
    have e1 : (j * (W + 1) + i) % (W + 1) = i := by rw [Nat.add_comm, Nat.add_mul_mod_self_right, Nat.mod_eq_of_lt hi]
    have e2 : (j * (W + 1) + i) / (W + 1) = j := by rw [Nat.add_comm, Nat.add_mul_div_right _ _ (by omega), Nat.div_eq_of_lt hi, Nat.zero_add]
    rw [e1, e2]
  have eF : 4 * si (H * W) (fun f => b01 (d f)) = si (H + 1) fun j => si (W + 1) fun i => (b01 (d (fc W H i j)) + b01 (d (fc W H (i + 1) j))) + (b01 (d (fc W H i (j + 1))) + b01 (d (fc W H (i + 1) (j + 1)))) := by
    have r : ∀ j, (si (W + 1) fun i => b01 (d (fc W H i j)) + b01 (d (fc W H (i + 1) j))) = 2 * si W fun i => b01 (d (fc W H (i + 1) j)) := fun j => by
      refine si_row (h := fun i => b01 (d (fc W H i j))) ?_ ?_ <;> (rw [fc_out (by omega), h0]; rfl)
    have : (si (H + 1) fun j => si (W + 1) fun i => (b01 (d (fc W H i j)) + b01 (d (fc W H (i + 1) j))) + (b01 (d (fc W H i (j + 1))) + b01 (d (fc W H (i + 1) (j + 1))))) = si (H + 1) fun j => (2 * si W fun i => b01 (d (fc W H (i + 1) j))) + (2 * si W fun i => b01 (d (fc W H (i + 1) (j + 1)))) :=
      si_congr fun j _ => by rw [si_add, r, r]
    rw [this, si_row (h := fun j => 2 * si W fun i => b01 (d (fc W H (i + 1) j))), si_mul, si_grid]
    · rw [← Int.mul_assoc]
      refine congrArg _ (si_congr fun j hj => si_congr fun i hi => ?_)
      congr 2
      unfold fc; rw [if_pos (by omega)]; rfl
    · show 2 * si W (fun i => b01 (d (fc W H (i + 1) 0))) = 0
      rw [si_congr (g := fun _ => 0) fun i _ => by rw [fc_out (by omega), h0]; rfl, si_zero]; rfl
    · show 2 * si W (fun i => b01 (d (fc W H (i + 1) (H + 1)))) = 0
      rw [si_congr (g := fun _ => 0) fun i _ => by rw [fc_out (by omega), h0]; rfl, si_zero]; rfl
  have eE : 2 * (((egs W H).filter fun e => d e.f || d e.g).length : Int) = (si (H + 1) fun j => si (W + 1) fun i => b01 (d (fc W H i j) || d (fc W H i (j + 1))) + b01 (d (fc W H (i + 1) j) || d (fc W H (i + 1) (j + 1)))) + (si (H + 1) fun j => si (W + 1) fun i => b01 (d (fc W H i j) || d (fc W H (i + 1) j)) + b01 (d (fc W H i (j + 1)) || d (fc W H (i + 1) (j + 1)))) := by
    unfold egs
    rw [List.filter_append, List.length_append, Int.natCast_add, si_flat, si_flat, Int.mul_add]
    congr 1
    · rw [← si_mul]
      refine si_congr fun j _ => ?_
      rw [si_fmap, si_row (h := fun i => b01 (d (fc W H i j) || d (fc W H i (j + 1))))]
      · rfl
      · rw [fc_out (by omega), fc_out (by omega), h0]; rfl
      · rw [fc_out (by omega), fc_out (by omega), h0]; rfl
    · rw [si_swap (H + 1) (W + 1) fun i j => b01 (d (fc W H i j) || d (fc W H (i + 1) j)) + b01 (d (fc W H i (j + 1)) || d (fc W H (i + 1) (j + 1)))]
      have : (si H fun j => ((((List.range (W + 1)).map fun i => vt W H i j).filter fun e => d e.f || d e.g).length : Int)) = si H fun j => si (W + 1) fun i => b01 (d (fc W H i (j + 1)) || d (fc W H (i + 1) (j + 1))) := si_congr fun j _ => by rw [si_fmap]; rfl
      rw [this, si_swap H (W + 1) fun i j => b01 (d (fc W H i (j + 1)) || d (fc W H (i + 1) (j + 1))), ← si_mul]
      refine si_congr fun i _ => ?_
      rw [si_row (h := fun j => b01 (d (fc W H i j) || d (fc W H (i + 1) j)))]
      · rw [fc_out (by omega), fc_out (by omega), h0]; rfl
      · rw [fc_out (by omega), fc_out (by omega), h0]; rfl
  have tot : (si (H + 1) fun j => si (W + 1) fun i => q4 (d (fc W H i j)) (d (fc W H (i + 1) j)) (d (fc W H i (j + 1))) (d (fc W H (i + 1) (j + 1)))) =
      (4 * si (H + 1) fun j => si (W + 1) fun i => b01 (d (fc W H i j) || d (fc W H (i + 1) j) || d (fc W H i (j + 1)) || d (fc W H (i + 1) (j + 1)))) + ((-2) * si (H + 1) fun j => si (W + 1) fun i => b01 (d (fc W H i j) || d (fc W H i (j + 1))) + b01 (d (fc W H (i + 1) j) || d (fc W H (i + 1) (j + 1)))) + ((-2) * si (H + 1) fun j => si (W + 1) fun i => b01 (d (fc W H i j) || d (fc W H (i + 1) j)) + b01 (d (fc W H i (j + 1)) || d (fc W H (i + 1) (j + 1)))) + (si (H + 1) fun j => si (W + 1) fun i => (b01 (d (fc W H i j)) + b01 (d (fc W H (i + 1) j))) + (b01 (d (fc W H i (j + 1))) + b01 (d (fc W H (i + 1) (j + 1))))) := by
    rw [← si_mul, ← si_mul, ← si_mul, ← si_add, ← si_add, ← si_add]
    refine si_congr fun j _ => ?_
    rw [← si_mul, ← si_mul, ← si_mul, ← si_add, ← si_add, ← si_add]
    refine si_congr fun i _ => ?_
    unfold q4; omega
  rw [tot, eV, ← eF]; omega
end Go.Proofs.Ytnnmebpahickhaa
