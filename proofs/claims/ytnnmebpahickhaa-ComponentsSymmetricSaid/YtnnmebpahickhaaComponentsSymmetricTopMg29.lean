/- Texts of the claim, laid together: SyM, LgM. -/
import Derived.Test.YtnnmebpahickhaaComponentsSymmetricTopMg28
/- law 38, Symmetric: turning, mirroring and enlarging keep the components. Plain mathematics. -/
namespace Go.Proofs.Ytnnmebpahickhaa
set_option linter.unusedSimpArgs false
set_option linter.unusedVariables false
open Go.RowKit Sym Uf Classical

/-- the areas of the dark components -/
noncomputable def ar8 (W : Nat) (dk : List Bool) : List Int := ars (DD dk true) (RR W true dk true) dk.length
structure Sy (W H : Nat) (dk : List Bool) (W' H' : Nat) (dk' : List Bool) : Prop where
  len : dk'.length = dk.length
  ar : (ar8 W' dk').Perm (ar8 W dk)
  nh : nh W' H' dk' = Go.Proofs.Ytnnmebpahickhaa.nh W H dk
theorem Sy.refl (W H : Nat) (dk : List Bool) : Sy W H dk W H dk := ⟨rfl, List.Perm.refl _, rfl⟩
theorem Sy.trans {W H W' H' W2 H2 : Nat} {dk dk' dk2 : List Bool} (h : Sy W H dk W' H' dk') (k : Sy W' H' dk' W2 H2 dk2) : Sy W H dk W2 H2 dk2 := ⟨k.len.trans h.len, k.ar.trans h.ar, k.nh.trans h.nh⟩
theorem Sy.nf {W H W' H' : Nat} {dk dk' : List Bool} (h : Sy W H dk W' H' dk') : nf (DD dk' true) (RR W' true dk' true) dk'.length = Go.Proofs.Ytnnmebpahickhaa.nf (DD dk true) (RR W true dk true) dk.length := by
  rw [← ars_len, ← ars_len]; exact h.ar.length_eq
/-- places of one bitmap and those of the other -/
structure Co (W H W' H' : Nat) (fx fy gx gy : Nat → Nat → Nat) : Prop where
  f : ∀ x y, x < W' → y < H' → fx x y < W ∧ fy x y < H
  g : ∀ x y, x < W → y < H → gx x y < W' ∧ gy x y < H'
  fg : ∀ x y, x < W → y < H → fx (gx x y) (gy x y) = x ∧ fy (gx x y) (gy x y) = y
  gf : ∀ x y, x < W' → y < H' → gx (fx x y) (fy x y) = x ∧ gy (fx x y) (fy x y) = y
  cn : ∀ e x y x2 y2, x < W' → y < H' → x2 < W' → y2 < H' → Cn e x y x2 y2 → Cn e (fx x y) (fy x y) (fx x2 y2) (fy x2 y2)
  cn' : ∀ e x y x2 y2, x < W → y < H → x2 < W → y2 < H → Cn e x y x2 y2 → Cn e (gx x y) (gy x y) (gx x2 y2) (gy x2 y2)
  bd : ∀ x y, x < W' → y < H' → ((x = 0 ∨ x + 1 = W' ∨ y = 0 ∨ y + 1 = H') ↔ (fx x y = 0 ∨ fx x y + 1 = W ∨ fy x y = 0 ∨ fy x y + 1 = H))
theorem Co.sy {W H W' H' : Nat} {fx fy gx gy : Nat → Nat → Nat} (h : Co W H W' H' fx fy gx gy) {dk dk' : List Bool} (hW : 0 < W) (hW' : 0 < W') (hn : dk.length = W * H) (hn' : dk'.length = W' * H') (hl : dk'.length = dk.length)
    (hdk : ∀ i, i < dk'.length → dk'[i]? = dk[fy (i % W') (i / W') * W + fx (i % W') (i / W')]?) : Sy W H dk W' H' dk' := by
  obtain ⟨φ, hφ⟩ : ∃ φ : Nat → Nat, φ = fun i => fy (i % W') (i / W') * W + fx (i % W') (i / W') := ⟨_, rfl⟩
  obtain ⟨ψ, hψ⟩ : ∃ ψ : Nat → Nat, ψ = fun p => gy (p % W) (p / W) * W' + gx (p % W) (p / W) := ⟨_, rfl⟩
  have hdk : ∀ i, i < dk'.length → dk'[i]? = dk[φ i]? := by rw [hφ]; exact hdk
  have in' : ∀ i, i < dk'.length → i % W' < W' ∧ i / W' < H' := fun i hi => ⟨Nat.mod_lt i hW', Nat.div_lt_of_lt_mul (by omega)⟩
  have in0 : ∀ p, p < dk.length → p % W < W ∧ p / W < H := fun i hi => ⟨Nat.mod_lt i hW, Nat.div_lt_of_lt_mul (by omega)⟩
  have cφ : ∀ i, i < dk'.length → φ i / W = fy (i % W') (i / W') ∧ φ i % W = fx (i % W') (i / W') ∧ φ i < dk.length := fun i hi => by
    obtain ⟨a, b⟩ := in' i hi
    obtain ⟨c, d⟩ := h.f _ _ a b
    obtain ⟨e1, e2⟩ := divmod_of (j := φ i) (W := W) (y := fy (i % W') (i / W')) (x := fx (i % W') (i / W')) (by rw [hφ]) c
    refine ⟨e1, e2, ?_⟩
    rw [hn, hφ]; exact row_lt c d
  have cψ : ∀ p, p < dk.length → ψ p / W' = gy (p % W) (p / W) ∧ ψ p % W' = gx (p % W) (p / W) ∧ ψ p < dk'.length := fun i hi => by
    obtain ⟨a, b⟩ := in0 i hi
    obtain ⟨c, d⟩ := h.g _ _ a b
    obtain ⟨e1, e2⟩ := divmod_of (j := ψ i) (W := W') (y := gy (i % W) (i / W)) (x := gx (i % W) (i / W)) (by rw [hψ]) c
    refine ⟨e1, e2, ?_⟩
    rw [hn', hψ]; exact row_lt c d
  have φψ : ∀ p, p < dk.length → φ (ψ p) = p := fun p hp => by
    obtain ⟨a, b, _⟩ := cψ p hp
    obtain ⟨c, d⟩ := in0 p hp
    obtain ⟨e1, e2⟩ := h.fg _ _ c d
    have : φ (ψ p) = fy (ψ p % W') (ψ p / W') * W + fx (ψ p % W') (ψ p / W') := by rw [hφ]
    rw [this, a, b, e1, e2]; exact Nat.div_add_mod' p W
  have ψφ : ∀ p, p < dk'.length → ψ (φ p) = p := fun p hp => by
    obtain ⟨a, b, _⟩ := cφ p hp
    obtain ⟨c, d⟩ := in' p hp
    obtain ⟨e1, e2⟩ := h.gf _ _ c d
    have : ψ (φ p) = gy (φ p % W) (φ p / W) * W' + gx (φ p % W) (φ p / W) := by rw [hψ]
    rw [this, a, b, e1, e2]; exact Nat.div_add_mod' p W'
  have lt : ∀ {l : List Bool} {d : Bool} {i : Nat}, l[i]? = some d → i < l.length := fun h => (List.getElem?_eq_some_iff.1 h).1
  have cov : Cov dk'.length dk.length 1 φ (fun p _ => ψ p) := {
    lt := fun i hi => (cφ i hi).2.2
    fl := fun p t hp _ => (cψ p hp).2.2
    fp := fun p t hp _ => φψ p hp
    of := fun i hi => ⟨0, by omega, ψφ i hi⟩
    inj := fun p t s _ ht hs _ => by omega }
  have hD : ∀ d i, DD dk' d i ↔ i < dk'.length ∧ DD dk d (φ i) := fun d i => ⟨fun h => ⟨lt h, by rw [DD, ← hdk i (lt h)]; exact h⟩, fun h => by rw [DD, hdk i h.1]; exact h.2⟩
  have hRf : ∀ e d i j, RR W' e dk' d i j → RR W e dk d (φ i) (φ j) := fun e d i j hR => rr_map hn' hW' (fun i j hi hj hc => by
    have li := lt hi
    have lj := lt hj
    obtain ⟨a1, a2⟩ := in' i li
    obtain ⟨b1, b2⟩ := in' j lj
    have := h.cn e _ _ _ _ a1 a2 b1 b2 hc
    rw [← (cφ i li).1, ← (cφ i li).2.1, ← (cφ j lj).1, ← (cφ j lj).2.1] at this
    exact rr_of_cn hn hW ((hD d i).1 hi).2 ((hD d j).1 hj).2 this) hR
  have hDb : ∀ d p, DD dk d p → DD dk' d (ψ p) := fun d p h => (hD d _).2 ⟨(cψ p (lt h)).2.2, by rw [φψ p (lt h)]; exact h⟩
  have hRb : ∀ e d p q, RR W e dk d p q → RR W' e dk' d (ψ p) (ψ q) := fun e d i j hR => rr_map hn hW (fun i j hi hj hc => by
    have li := lt hi
    have lj := lt hj
    obtain ⟨a1, a2⟩ := in0 i li
    obtain ⟨b1, b2⟩ := in0 j lj
    have := h.cn' e _ _ _ _ a1 a2 b1 b2 hc
    rw [← (cψ i li).1, ← (cψ i li).2.1, ← (cψ j lj).1, ← (cψ j lj).2.1] at this
    exact rr_of_cn hn' hW' (hDb d i hi) (hDb d j hj) this) hR
  have hR : ∀ e d i j, DD dk' d i → DD dk' d j → (RR W' e dk' d i j ↔ RR W e dk d (φ i) (φ j)) := fun e d i j hi hj => ⟨hRf e d i j, fun k => by have := hRb e d _ _ k; rwa [ψφ i (lt hi), ψφ j (lt hj)] at this⟩
  refine ⟨hl, ?_, ?_⟩
  · have := cov.ars (by omega) (hD true) (fun p h => lt h) (hR true true) Cl.refl (fun _ _ => Cl.symm) (fun _ _ _ => Cl.trans) Cl.refl (fun _ _ => Cl.symm) (fun _ _ _ => Cl.trans)
    simpa [ar8] using this
  · obtain ⟨g, _, hp⟩ := cov.first (by omega) (hD false) (fun p h => lt h) (hR false false) Cl.refl (fun _ _ => Cl.symm) (fun _ _ _ => Cl.trans) Cl.refl (fun _ _ => Cl.symm) (fun _ _ _ => Cl.trans)
    have hb : ∀ i, i < dk'.length → (Bord W' H' i ↔ Bord W H (φ i)) := fun i hi => by
      obtain ⟨a1, a2⟩ := in' i hi
      unfold Bord
      rw [(cφ i hi).1, (cφ i hi).2.1]
      exact h.bd _ _ a1 a2
    have := (hp (Hol W H dk) (Hol W' H' dk') (fun i hi => ?_) (fun i j hi hj hR hH => hH.of hj hR)).length_eq
    · rw [List.length_map] at this; exact this
    · constructor
      · rintro ⟨_, k⟩
        refine ⟨((hD false i).1 hi).2, fun p hp hR' hB => ?_⟩
        have hq := hDb false p hp
        refine k (ψ p) hq ((hR false false i _ hi hq).2 (by rw [φψ p (lt hp)]; exact hR')) ((hb _ (lt hq)).2 (by rw [φψ p (lt hp)]; exact hB))
      · rintro ⟨_, k⟩
        exact ⟨hi, fun j hj hR' hB => k (φ j) ((hD false j).1 hj).2 (hRf _ _ _ _ hR') ((hb j (lt hj)).1 hB)⟩
theorem co_mirror {W H : Nat} : Co W H W H (fun x _ => W - 1 - x) (fun _ y => y) (fun x _ => W - 1 - x) (fun _ y => y) where
  f x y hx hy := ⟨by omega, hy⟩
  g x y hx hy := ⟨by omega, hy⟩
  fg x y hx hy := ⟨by omega, rfl⟩
  gf x y hx hy := ⟨by omega, rfl⟩
  cn e x y x2 y2 h1 h2 h3 h4 h := by
    obtain ⟨a, b, c, d, k, l⟩ := h
    exact ⟨by omega, by omega, c, d, by omega, fun e => by have := l e; omega⟩
  cn' e x y x2 y2 h1 h2 h3 h4 h := by
    obtain ⟨a, b, c, d, k, l⟩ := h
    exact ⟨by omega, by omega, c, d, by omega, fun e => by have := l e; omega⟩
  bd x y hx hy := by omega
theorem co_turn {W H : Nat} : Co W H H W (fun _ y => y) (fun x _ => H - 1 - x) (fun _ y => H - 1 - y) (fun x _ => x) where
  f x y hx hy := ⟨hy, by omega⟩
  g x y hx hy := ⟨by omega, hx⟩
  fg x y hx hy := ⟨rfl, by omega⟩
  gf x y hx hy := ⟨by omega, rfl⟩
  cn e x y x2 y2 h1 h2 h3 h4 h := by
    obtain ⟨a, b, c, d, k, l⟩ := h
    exact ⟨c, d, by omega, by omega, by omega, fun e => by have := l e; omega⟩
  cn' e x y x2 y2 h1 h2 h3 h4 h := by
    obtain ⟨a, b, c, d, k, l⟩ := h
    exact ⟨by omega, by omega, a, b, by omega, fun e => by have := l e; omega⟩
  bd x y hx hy := by omega
end Go.Proofs.Ytnnmebpahickhaa

/- law 38, Symmetric: enlarging by 2. Plain mathematics. -/
namespace Go.Proofs.Ytnnmebpahickhaa
set_option linter.unusedSimpArgs false
set_option linter.unusedVariables false
open Go.RowKit Sym Uf Classical

theorem large_ar {W H : Nat} {dk dk' : List Bool} (hW : 0 < W) (hn : dk.length = W * H) (hn' : dk'.length = 2 * W * (2 * H))
    (hdk : ∀ i, i < dk'.length → dk'[i]? = dk[i / (2 * W) / 2 * W + i % (2 * W) / 2]?) : (ar8 (2 * W) dk').Perm ((ar8 W dk).map fun a => ((4 : Nat) : Int) * a) := by
  obtain ⟨φ, hφ⟩ : ∃ φ : Nat → Nat, ∀ i, φ i = i / (2 * W) / 2 * W + i % (2 * W) / 2 := ⟨_, fun _ => rfl⟩
  obtain ⟨fib, hfib⟩ : ∃ fib : Nat → Nat → Nat, ∀ p t, fib p t = (2 * (p / W) + t / 2) * (2 * W) + (2 * (p % W) + t % 2) := ⟨_, fun _ _ => rfl⟩
  have hdk : ∀ i, i < dk'.length → dk'[i]? = dk[φ i]? := fun i hi => by rw [hφ]; exact hdk i hi
  have in' : ∀ i, i < dk'.length → i % (2 * W) < 2 * W ∧ i / (2 * W) < 2 * H := fun i hi => ⟨Nat.mod_lt i (by omega), Nat.div_lt_of_lt_mul (by omega)⟩
  have in0 : ∀ p, p < dk.length → p % W < W ∧ p / W < H := fun i hi => ⟨Nat.mod_lt i hW, Nat.div_lt_of_lt_mul (by omega)⟩
  have cφ : ∀ i, i < dk'.length → φ i / W = i / (2 * W) / 2 ∧ φ i % W = i % (2 * W) / 2 ∧ φ i < dk.length := fun i hi => by
    obtain ⟨a, b⟩ := in' i hi
    obtain ⟨e1, e2⟩ := divmod_of (hφ i) (by omega)
    refine ⟨e1, e2, ?_⟩
    rw [hn, hφ]; exact row_lt (by omega) (by omega)
  have cf : ∀ p t, p < dk.length → t < 4 → fib p t / (2 * W) = 2 * (p / W) + t / 2 ∧ fib p t % (2 * W) = 2 * (p % W) + t % 2 ∧ fib p t < dk'.length := fun p t hp ht => by
    obtain ⟨a, b⟩ := in0 p hp
    obtain ⟨e1, e2⟩ := divmod_of (hfib p t) (by omega)
    refine ⟨e1, e2, ?_⟩
    rw [hn', hfib]; exact row_lt (by omega) (by omega)
  have fp : ∀ p t, p < dk.length → t < 4 → φ (fib p t) = p := fun p t hp ht => by
    obtain ⟨a, b, _⟩ := cf p t hp ht
    rw [hφ, a, b, show (2 * (p / W) + t / 2) / 2 = p / W from by omega, show (2 * (p % W) + t % 2) / 2 = p % W from by omega]
    exact Nat.div_add_mod' p W
  have of : ∀ i, i < dk'.length → ∃ t, t < 4 ∧ fib (φ i) t = i := fun i hi => by
    obtain ⟨a, b, _⟩ := cφ i hi
    refine ⟨i / (2 * W) % 2 * 2 + i % (2 * W) % 2, by omega, ?_⟩
    rw [hfib, a, b]
    have := Nat.div_add_mod' i (2 * W)
    rw [show 2 * (i / (2 * W) / 2) + (i / (2 * W) % 2 * 2 + i % (2 * W) % 2) / 2 = i / (2 * W) from by omega, show 2 * (i % (2 * W) / 2) + (i / (2 * W) % 2 * 2 + i % (2 * W) % 2) % 2 = i % (2 * W) from by omega]
    exact this
  have lt : ∀ {l : List Bool} {d : Bool} {i : Nat}, l[i]? = some d → i < l.length := fun h => (List.getElem?_eq_some_iff.1 h).1
  have cov : Cov dk'.length dk.length 4 φ fib := {
    lt := fun i hi => (cφ i hi).2.2
    fl := fun p t hp ht => (cf p t hp ht).2.2
    fp := fp
    of := of
    inj := fun p t s hp ht hs e => by
      obtain ⟨a1, a2, _⟩ := cf p t hp ht
      obtain ⟨b1, b2, _⟩ := cf p s hp hs
      rw [e] at a1 a2
      omega }
  have hD : ∀ i, DD dk' true i ↔ i < dk'.length ∧ DD dk true (φ i) := fun i => ⟨fun h => ⟨lt h, by rw [DD, ← hdk i (lt h)]; exact h⟩, fun h => by rw [DD, hdk i h.1]; exact h.2⟩
  have hRf : ∀ i j, RR (2 * W) true dk' true i j → RR W true dk true (φ i) (φ j) := fun i j hR => rr_map hn' (by omega) (fun i j hi hj hc => by
    obtain ⟨a1, a2, _⟩ := cφ i (lt hi)
    obtain ⟨b1, b2, _⟩ := cφ j (lt hj)
    by_cases e : φ i = φ j
    · rw [e]; exact Cl.refl _
    · refine rr_of_cn hn hW ((hD i).1 hi).2 ((hD j).1 hj).2 ?_
      obtain ⟨c1, c2, c3, c4, c5, _⟩ := hc
      have hne : ¬ (φ i % W = φ j % W ∧ φ i / W = φ j / W) := fun h => e (by rw [← Nat.div_add_mod' (φ i) W, ← Nat.div_add_mod' (φ j) W, h.1, h.2])
      rw [a1, a2, b1, b2] at *
      exact ⟨by omega, by omega, by omega, by omega, hne, fun h => by cases h⟩) hR
  have same : ∀ i j, DD dk' true i → DD dk' true j → φ i = φ j → RR (2 * W) true dk' true i j := fun i j hi hj e => by
    obtain ⟨a1, a2, _⟩ := cφ i (lt hi)
    obtain ⟨b1, b2, _⟩ := cφ j (lt hj)
    by_cases h : i = j
    · rw [h]; exact Cl.refl _
    · have hne : ¬ (i % (2 * W) = j % (2 * W) ∧ i / (2 * W) = j / (2 * W)) := fun k => h (by rw [← Nat.div_add_mod' i (2 * W), ← Nat.div_add_mod' j (2 * W), k.1, k.2])
      rw [e] at a1 a2
      exact rr_of_cn hn' (by omega) hi hj ⟨by omega, by omega, by omega, by omega, hne, fun h => by cases h⟩
  have hDf : ∀ p t, t < 4 → DD dk true p → DD dk' true (fib p t) := fun p t ht h => (hD _).2 ⟨(cf p t (lt h) ht).2.2, by rw [fp p t (lt h) ht]; exact h⟩
  have hRb : ∀ p q, RR W true dk true p q → RR (2 * W) true dk' true (fib p 0) (fib q 0) := fun p q hR => rr_map (φ := fun p => fib p 0) hn hW (fun p q hp hq hc => by
    obtain ⟨c1, c2, c3, c4, c5, _⟩ := hc
    obtain ⟨t, ht, t1, t2⟩ : ∃ t, t < 4 ∧ (t % 2 = if p % W < q % W then 1 else 0) ∧ (t / 2 = if p / W < q / W then 1 else 0) := ⟨(if p / W < q / W then 1 else 0) * 2 + (if p % W < q % W then 1 else 0), by split <;> split <;> omega, by split <;> split <;> omega, by split <;> split <;> omega⟩
    obtain ⟨s, hs, s1, s2⟩ : ∃ t, t < 4 ∧ (t % 2 = if q % W < p % W then 1 else 0) ∧ (t / 2 = if q / W < p / W then 1 else 0) := ⟨(if q / W < p / W then 1 else 0) * 2 + (if q % W < p % W then 1 else 0), by split <;> split <;> omega, by split <;> split <;> omega, by split <;> split <;> omega⟩
    have k1 := same (fib p 0) (fib p t) (hDf p 0 (by omega) hp) (hDf p t ht hp) (by rw [fp p 0 (lt hp) (by omega), fp p t (lt hp) ht])
    have k3 := same (fib q s) (fib q 0) (hDf q s hs hq) (hDf q 0 (by omega) hq) (by rw [fp q 0 (lt hq) (by omega), fp q s (lt hq) hs])
    refine Cl.trans k1 (Cl.trans (rr_of_cn hn' (by omega) (hDf p t ht hp) (hDf q s hs hq) ?_) k3)
    obtain ⟨a1, a2, _⟩ := cf p t (lt hp) ht
    obtain ⟨b1, b2, _⟩ := cf q s (lt hq) hs
    rw [a1, a2, b1, b2, t1, t2, s1, s2]
    generalize p % W = x at *
    generalize p / W = y at *
    generalize q % W = x2 at *
    generalize q / W = y2 at *
    refine ⟨?_, ?_, ?_, ?_, ?_, fun h => by cases h⟩
    · split <;> split <;> omega
    · split <;> split <;> omega
    · split <;> split <;> omega
    · split <;> split <;> omega
    · split <;> split <;> split <;> split <;> omega) hR
  have hR : ∀ i j, DD dk' true i → DD dk' true j → (RR (2 * W) true dk' true i j ↔ RR W true dk true (φ i) (φ j)) := fun i j hi hj => ⟨hRf i j, fun k => by
    have hp := ((hD i).1 hi).2
    have hq := ((hD j).1 hj).2
    have k1 := same i (fib (φ i) 0) hi (hDf _ 0 (by omega) hp) (by rw [fp _ 0 (lt hp) (by omega)])
    have k3 := same (fib (φ j) 0) j (hDf _ 0 (by omega) hq) hj (by rw [fp _ 0 (lt hq) (by omega)])
    exact Cl.trans k1 (Cl.trans (hRb _ _ k) k3)⟩
  exact cov.ars (by omega) hD (fun p h => lt h) hR Cl.refl (fun _ _ => Cl.symm) (fun _ _ _ => Cl.trans) Cl.refl (fun _ _ => Cl.symm) (fun _ _ _ => Cl.trans)
end Go.Proofs.Ytnnmebpahickhaa
