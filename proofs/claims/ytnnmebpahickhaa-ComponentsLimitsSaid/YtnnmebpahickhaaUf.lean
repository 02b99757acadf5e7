/- Union-find, as plain mathematics: a list of parents. -/
namespace Go.Proofs.Ytnnmebpahickhaa.Uf
set_option linter.unusedSimpArgs false
set_option linter.unusedVariables false

/-- the root of i is r, n steps away -/
def PathN (par : List Int) : Nat → Nat → Nat → Prop
  | 0, i, r => i = r ∧ par[i]? = some (i : Int)
  | n + 1, i, r => ∃ j : Nat, par[i]? = some (j : Int) ∧ i ≠ j ∧ PathN par n j r
theorem PathN.det {par : List Int} : ∀ {n m i r s}, PathN par n i r → PathN par m i s → n = m ∧ r = s
  | 0, 0, i, r, s, h, k => ⟨rfl, h.1.symm.trans k.1⟩
  | 0, m + 1, i, r, s, h, k => by
    obtain ⟨j, h1, h2, _⟩ := k
    rw [h.2] at h1; have := Option.some.inj h1; omega
  | n + 1, 0, i, r, s, h, k => by
    obtain ⟨j, h1, h2, _⟩ := h
    rw [k.2] at h1; have := Option.some.inj h1; omega
  | n + 1, m + 1, i, r, s, h, k => by
    obtain ⟨j, h1, h2, h3⟩ := h
    obtain ⟨j', k1, k2, k3⟩ := k
    rw [h1] at k1
    have : j = j' := by have := Option.some.inj k1; omega
    subst this
    have := PathN.det h3 k3
    exact ⟨by omega, this.2⟩
theorem PathN.root {par : List Int} : ∀ {n i r}, PathN par n i r → par[r]? = some (r : Int)
  | 0, i, r, h => by rw [← h.1]; exact h.2
  | n + 1, i, r, h => by obtain ⟨j, _, _, h3⟩ := h; exact h3.root
theorem PathN.lt {par : List Int} : ∀ {n i r}, PathN par n i r → i < par.length
  | 0, i, r, h => (List.getElem?_eq_some_iff.1 h.2).1
  | n + 1, i, r, h => by obtain ⟨j, h1, _⟩ := h; exact (List.getElem?_eq_some_iff.1 h1).1
theorem PathN.lt' {par : List Int} {n i r : Nat} (h : PathN par n i r) : r < par.length := (List.getElem?_eq_some_iff.1 h.root).1
def Root (par : List Int) (i r : Nat) : Prop := ∃ n, PathN par n i r
theorem Root.det {par : List Int} {i r s : Nat} (h : Root par i r) (k : Root par i s) : r = s := by
  obtain ⟨n, h⟩ := h; obtain ⟨m, k⟩ := k; exact (h.det k).2
theorem Root.lt {par : List Int} {i r : Nat} (h : Root par i r) : i < par.length := h.choose_spec.lt
theorem Root.lt' {par : List Int} {i r : Nat} (h : Root par i r) : r < par.length := h.choose_spec.lt'
theorem Root.self {par : List Int} {i r : Nat} (h : Root par i r) : Root par r r := ⟨0, rfl, h.choose_spec.root⟩
/-- the list may only be changed so that an element points at its root, if it is at most n steps away -/
def Closed (par : List Int) (D : Nat → Prop) : Prop := ∀ (x y : Nat), D x → par[x]? = some (y : Int) → D y
def Comp (n i : Nat) (par par' : List Int) : Prop := par'.length = par.length ∧ ∀ k : Nat, par'[k]? = par[k]? ∨ ∃ m r : Nat, m ≤ n ∧ PathN par m k r ∧ par'[k]? = some (r : Int) ∧ ∀ D : Nat → Prop, D i → Closed par D → D k
theorem Comp.refl (n i : Nat) (par : List Int) : Comp n i par par := ⟨rfl, fun _ => .inl rfl⟩
theorem Comp.path {n o : Nat} {par par' : List Int} (h : Comp n o par par') : ∀ {m i r}, PathN par m i r → Root par' i r
  | 0, i, r, k => by
    obtain ⟨rfl, k⟩ := k
    refine ⟨0, rfl, ?_⟩
    rcases h.2 i with h1 | ⟨m, s, _, h2, h3, _⟩
    · rw [h1]; exact k
    · have := (h2.det (m := 0) ⟨rfl, k⟩).2; subst this; exact h3
  | m + 1, i, r, k => by
    have hk := k
    obtain ⟨j, h1, h2, h3⟩ := k
    obtain ⟨q, hq⟩ := h.path h3
    rcases h.2 i with h4 | ⟨m', s, _, h5, h6, _⟩
    · exact ⟨q + 1, j, by rw [h4]; exact h1, h2, hq⟩
    · have := (h5.det hk).2; subst this
      have hs := hq.root
      by_cases e : i = s
      · subst e; exact ⟨0, rfl, hs⟩
      · exact ⟨1, s, h6, e, rfl, hs⟩
theorem Comp.root {n o : Nat} {par par' : List Int} (h : Comp n o par par') {i r : Nat} (k : Root par i r) : Root par' i r := by
  obtain ⟨m, k⟩ := k; exact h.path k
theorem Comp.out {n o : Nat} {par par' : List Int} (h : Comp n o par par') {D : Nat → Prop} (ho : D o) (hc : Closed par D) {k : Nat} (hk : ¬ D k) : par'[k]? = par[k]? := by
  rcases h.2 k with h1 | ⟨_, _, _, _, _, h2⟩
  · exact h1
  · exact (hk (h2 D ho hc)).elim
/-- what find does: the step behind the inner call -/
theorem Comp.step {n i j r : Nat} {par par1 : List Int} (h1 : par[i]? = some (j : Int)) (h2 : i ≠ j) (h3 : PathN par n j r) (h : Comp n j par par1) : par1[i]? = some (j : Int) ∧ Comp (n + 1) i par (par1.set i (r : Int)) := by
  have hp : PathN par (n + 1) i r := ⟨j, h1, h2, h3⟩
  refine ⟨?_, by simpa using h.1, fun k => ?_⟩
  · rcases h.2 i with h4 | ⟨m, s, hm, h5, _⟩
    · rw [h4]; exact h1
    · have := (h5.det hp).1; omega
  · by_cases e : i = k
    · subst e
      have hlt : i < par1.length := by rw [h.1]; exact hp.lt
      exact .inr ⟨n + 1, r, Nat.le_refl _, hp, by rw [List.getElem?_set_self hlt], fun D hD _ => hD⟩
    · rw [List.getElem?_set_ne e]
      rcases h.2 k with h4 | ⟨m, s, hm, h5, h6, h7⟩
      · exact .inl h4
      · exact .inr ⟨m, s, by omega, h5, h6, fun D hD hc => h7 D (hc i j hD h1) hc⟩
/-- one root is hung below another one -/
theorem Root.hang {par : List Int} {a b : Nat} (ha : Root par a a) (hb : Root par b b) (hne : a ≠ b) {i r : Nat} (h : Root par i r) : Root (par.set b (a : Int)) i (if r = b then a else r) := by
  have hbl : b < par.length := hb.lt
  have ha0 : par[a]? = some (a : Int) := ha.choose_spec.root
  have hb0 : par[b]? = some (b : Int) := hb.choose_spec.root
  obtain ⟨n, h⟩ := h
  induction n generalizing i with
  | zero =>
    obtain ⟨rfl, h⟩ := h
    by_cases e : i = b
    · subst e
      rw [if_pos rfl]
      exact ⟨1, a, by rw [List.getElem?_set_self hbl], fun e => hne e.symm, rfl, by rw [List.getElem?_set_ne (fun e => hne e.symm)]; exact ha0⟩
    · rw [if_neg e]
      exact ⟨0, rfl, by rw [List.getElem?_set_ne (fun e' => e e'.symm)]; exact h⟩
  | succ n ih =>
    obtain ⟨j, h1, h2, h3⟩ := h
    obtain ⟨m, hm⟩ := ih h3
    refine ⟨m + 1, j, ?_, h2, hm⟩
    by_cases e : b = i
    · subst e; rw [hb0] at h1; have := Option.some.inj h1; omega
    · rw [List.getElem?_set_ne e]; exact h1

/-- the equivalence that pairs span -/
inductive Cl (E : Nat → Nat → Prop) : Nat → Nat → Prop
  | refl (i) : Cl E i i
  | edge {i j} : E i j → Cl E i j
  | symm {i j} : Cl E i j → Cl E j i
  | trans {i j k} : Cl E i j → Cl E j k → Cl E i k
theorem Cl.mono {E F : Nat → Nat → Prop} (h : ∀ i j, E i j → Cl F i j) {i j : Nat} (k : Cl E i j) : Cl F i j := by
  induction k with
  | refl i => exact .refl i
  | edge e => exact h _ _ e
  | symm _ ih => exact .symm ih
  | trans _ _ ih1 ih2 => exact .trans ih1 ih2
/-- one pair more -/
theorem Cl.add {E : Nat → Nat → Prop} {a b i j : Nat} : Cl (fun x y => E x y ∨ (x = a ∧ y = b)) i j ↔ Cl E i j ∨ (Cl E i a ∧ Cl E b j) ∨ (Cl E i b ∧ Cl E a j) := by
  constructor
  · intro h
    induction h with
    | refl i => exact .inl (.refl i)
    | edge e =>
      rcases e with e | ⟨rfl, rfl⟩
      · exact .inl (.edge e)
      · exact .inr (.inl ⟨.refl _, .refl _⟩)
    | symm _ ih =>
      rcases ih with h | ⟨h1, h2⟩ | ⟨h1, h2⟩
      · exact .inl h.symm
      · exact .inr (.inr ⟨h2.symm, h1.symm⟩)
      · exact .inr (.inl ⟨h2.symm, h1.symm⟩)
    | trans _ _ ih1 ih2 =>
      rcases ih1 with h | ⟨h1, h2⟩ | ⟨h1, h2⟩ <;> rcases ih2 with k | ⟨k1, k2⟩ | ⟨k1, k2⟩
      · exact .inl (h.trans k)
      · exact .inr (.inl ⟨h.trans k1, k2⟩)
      · exact .inr (.inr ⟨h.trans k1, k2⟩)
      · exact .inr (.inl ⟨h1, h2.trans k⟩)
      · exact .inr (.inl ⟨h1, k2⟩)
      · exact .inl (h1.trans k2)
      · exact .inr (.inr ⟨h1, h2.trans k⟩)
      · exact .inl (h1.trans k2)
      · exact .inr (.inr ⟨h1, k2⟩)
  · rintro (h | ⟨h1, h2⟩ | ⟨h1, h2⟩)
    · exact h.mono fun _ _ e => .edge (.inl e)
    · exact ((h1.mono fun _ _ e => .edge (.inl e)).trans (.edge (.inr ⟨rfl, rfl⟩))).trans (h2.mono fun _ _ e => .edge (.inl e))
    · exact ((h1.mono fun _ _ e => .edge (.inl e)).trans (.symm (.edge (.inr ⟨rfl, rfl⟩)))).trans (h2.mono fun _ _ e => .edge (.inl e))
/-- the parents' list says exactly what is joined: D are its elements -/
structure Says (par : List Int) (D : Nat → Prop) (E : Nat → Nat → Prop) : Prop where
  root : ∀ i, D i → ∃ r, D r ∧ Root par i r
  step : Closed par D
  same : ∀ i j r s, D i → D j → Root par i r → Root par j s → (r = s ↔ Cl E i j)
theorem Says.comp {n o : Nat} {par par' : List Int} {D : Nat → Prop} {E : Nat → Nat → Prop} (h : Says par D E) (k : Comp n o par par') : Says par' D E where
  root i hi := let ⟨r, h1, h2⟩ := h.root i hi; ⟨r, h1, k.root h2⟩
  step i j hi hj := by
    rcases k.2 i with e | ⟨m, r, _, h2, h3, _⟩
    · exact h.step i j hi (e ▸ hj)
    · rw [h3] at hj
      have : r = j := by have := Option.some.inj hj; omega
      subst this
      obtain ⟨s, h4, h5⟩ := h.root i hi
      have := h5.det ⟨m, h2⟩; subst this; exact h4
  same i j r s hi hj hr hs := by
    obtain ⟨r', _, h1⟩ := h.root i hi
    obtain ⟨s', _, h2⟩ := h.root j hj
    have e1 := (k.root h1).det hr; have e2 := (k.root h2).det hs
    subst e1 e2
    exact h.same i j _ _ hi hj h1 h2
theorem Says.cl {par : List Int} {D : Nat → Prop} {E F : Nat → Nat → Prop} (h : Says par D E) (k : ∀ i j, Cl E i j ↔ Cl F i j) : Says par D F where
  root := h.root
  step := h.step
  same i j r s hi hj hr hs := (h.same i j r s hi hj hr hs).trans (k i j)
theorem Says.hang {par : List Int} {D : Nat → Prop} {E : Nat → Nat → Prop} {a b ra rb : Nat} (h : Says par D E) (ha : D a) (hb : D b) (hra : Root par a ra) (hrb : Root par b rb) (hne : ra ≠ rb) (x y : Nat) (hxy : (x = ra ∧ y = rb) ∨ (x = rb ∧ y = ra)) :
    Says (par.set y (x : Int)) D (fun i j => E i j ∨ (i = a ∧ j = b)) := by
  have hx : Root par x x := hxy.elim (fun e => e.1 ▸ hra.self) (fun e => e.1 ▸ hrb.self)
  have hy : Root par y y := hxy.elim (fun e => e.2 ▸ hrb.self) (fun e => e.2 ▸ hra.self)
  have hxy' : x ≠ y := by omega
  have hDx : D x := by
    rcases hxy with ⟨rfl, _⟩ | ⟨rfl, _⟩
    · obtain ⟨r, h1, h2⟩ := h.root a ha; have := h2.det hra; subst this; exact h1
    · obtain ⟨r, h1, h2⟩ := h.root b hb; have := h2.det hrb; subst this; exact h1
  refine ⟨fun i hi => ?_, fun i j hi hj => ?_, fun i j r s hi hj hr hs => ?_⟩
  · obtain ⟨r, h1, h2⟩ := h.root i hi
    refine ⟨if r = y then x else r, ?_, Root.hang hx hy hxy' h2⟩
    split
    · exact hDx
    · exact h1
  · by_cases e : y = i
    · subst e
      rw [List.getElem?_set_self hy.lt] at hj
      have : x = j := by have := Option.some.inj hj; omega
      subst this; exact hDx
    · rw [List.getElem?_set_ne e] at hj; exact h.step i j hi hj
  · obtain ⟨r', _, h1⟩ := h.root i hi
    obtain ⟨s', _, h2⟩ := h.root j hj
    have e1 := (Root.hang hx hy hxy' h1).det hr
    have e2 := (Root.hang hx hy hxy' h2).det hs
    rw [Cl.add, ← h.same i j _ _ hi hj h1 h2, ← h.same i a _ _ hi ha h1 hra, ← h.same b j _ _ hb hj hrb h2, ← h.same i b _ _ hi hb h1 hrb, ← h.same a j _ _ ha hj hra h2, ← e1, ← e2]
    clear e1 e2 hr hs h1 h2 hra hrb hx hy hDx ha hb hi hj
    by_cases c1 : r' = y <;> by_cases c2 : s' = y
    · rw [if_pos c1, if_pos c2]; omega
    · rw [if_pos c1, if_neg c2]; omega
    · rw [if_neg c1, if_pos c2]; omega
    · rw [if_neg c1, if_neg c2]; omega
theorem Says.already {par : List Int} {D : Nat → Prop} {E : Nat → Nat → Prop} {a b r : Nat} (h : Says par D E) (ha : D a) (hb : D b) (hra : Root par a r) (hrb : Root par b r) : Says par D (fun i j => E i j ∨ (i = a ∧ j = b)) :=
  h.cl fun i j => by
    have hab : Cl E a b := (h.same a b r r ha hb hra hrb).1 rfl
    rw [Cl.add]
    exact ⟨.inl, fun h => h.elim id fun h => h.elim (fun h => (h.1.trans hab).trans h.2) (fun h => (h.1.trans hab.symm).trans h.2)⟩
theorem Cl.in {D : Nat → Prop} {E : Nat → Nat → Prop} (hE : ∀ i j, E i j → D i ∧ D j) {i j : Nat} (h : Cl E i j) : i = j ∨ (D i ∧ D j) := by
  induction h with
  | refl i => exact .inl rfl
  | edge e => exact .inr (hE _ _ e)
  | symm _ ih => exact ih.elim (fun e => .inl e.symm) (fun e => .inr ⟨e.2, e.1⟩)
  | trans _ _ ih1 ih2 =>
    rcases ih1 with rfl | h1
    · exact ih2
    · rcases ih2 with rfl | h2
      · exact .inr h1
      · exact .inr ⟨h1.1, h2.2⟩
/-- what lies outside the elements is set -/
theorem Root.away {par : List Int} {D : Nat → Prop} (hstep : Closed par D) {a : Nat} (hD : ∀ i, D i → i ≠ a) (z : Int) {i r : Nat} (hi : D i) (h : Root par i r) : Root (par.set a z) i r := by
  obtain ⟨n, hn⟩ := h
  induction n generalizing i with
  | zero =>
    obtain ⟨rfl, hn⟩ := hn
    exact ⟨0, rfl, by rw [List.getElem?_set_ne (fun e => hD i hi e.symm)]; exact hn⟩
  | succ n ih =>
    obtain ⟨j, h1, h2, h3⟩ := hn
    obtain ⟨m, hm⟩ := ih (hstep i j hi h1) h3
    exact ⟨m + 1, j, by rw [List.getElem?_set_ne (fun e => hD i hi e.symm)]; exact h1, h2, hm⟩
theorem Says.away {par : List Int} {D : Nat → Prop} {E : Nat → Nat → Prop} {a : Nat} (h : Says par D E) (hD : ∀ i, D i → i ≠ a) (z : Int) : Says (par.set a z) D E where
  root i hi := let ⟨r, h1, h2⟩ := h.root i hi; ⟨r, h1, Root.away h.step hD z hi h2⟩
  step i j hi hj := h.step i j hi (by rw [List.getElem?_set_ne (fun e => hD i hi e.symm)] at hj; exact hj)
  same i j r s hi hj hr hs := by
    obtain ⟨r', _, h1⟩ := h.root i hi
    obtain ⟨s', _, h2⟩ := h.root j hj
    have e1 := (Root.away h.step hD z hi h1).det hr; have e2 := (Root.away h.step hD z hj h2).det hs
    subst e1 e2
    exact h.same i j _ _ hi hj h1 h2
/-- one element more, alone -/
theorem Says.one {par : List Int} {D : Nat → Prop} {E : Nat → Nat → Prop} {a : Nat} (h : Says par D E) (hlt : a < par.length) (hD : ∀ i, D i → i ≠ a) (hE : ∀ i j, E i j → D i ∧ D j) : Says (par.set a (a : Int)) (fun i => D i ∨ i = a) E := by
  have h' := h.away hD (a : Int)
  have ha : Root (par.set a (a : Int)) a a := ⟨0, rfl, by rw [List.getElem?_set_self hlt]⟩
  have hno : ∀ i, D i → ¬ Cl E i a := fun i hi hc => (hc.in hE).elim (fun e => hD i hi e) (fun e => hD a e.2 rfl)
  have hrt : ∀ i r, D i → Root (par.set a (a : Int)) i r → r ≠ a := fun i r hi hr => by
    obtain ⟨s, h1, h2⟩ := h'.root i hi
    have := h2.det hr; subst this; exact hD s h1
  refine ⟨fun i hi => ?_, fun i j hi hj => ?_, fun i j r s hi hj hr hs => ?_⟩
  · rcases hi with hi | rfl
    · obtain ⟨r, h1, h2⟩ := h'.root i hi; exact ⟨r, .inl h1, h2⟩
    · exact ⟨i, .inr rfl, ha⟩
  · rcases hi with hi | rfl
    · exact .inl (h'.step i j hi hj)
    · rw [List.getElem?_set_self hlt] at hj
      exact .inr (by have := Option.some.inj hj; omega)
  · rcases hi with hi | rfl <;> rcases hj with hj | rfl
    · exact h'.same i j r s hi hj hr hs
    · have := ha.det hs; subst this
      exact ⟨fun e => (hrt i r hi hr e).elim, fun c => (hno i hi c).elim⟩
    · have := ha.det hr; subst this
      exact ⟨fun e => (hrt j s hj hs e.symm).elim, fun c => (hno j hj c.symm).elim⟩
    · have e1 := ha.det hr; have e2 := ha.det hs
      exact ⟨fun _ => .refl _, fun _ => by omega⟩
end Go.Proofs.Ytnnmebpahickhaa.Uf
