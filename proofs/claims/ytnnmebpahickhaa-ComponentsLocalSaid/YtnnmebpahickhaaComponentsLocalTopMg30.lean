/- Texts of the claim, laid together: LocM. -/
import Derived.Test.YtnnmebpahickhaaComponentsLocalTopMg29
/- law 38, Local: the Euler number of a bitmap is a local count. Plain mathematics. -/
namespace Go.Proofs.Ytnnmebpahickhaa
set_option linter.unusedSimpArgs false
set_option linter.unusedVariables false
open Go.RowKit Sym Uf Classical

section
variable {W H : Nat} {dk : List Bool}
theorem fc_mod {a b : Nat} (hW : 0 < W) (ha : 1 ≤ a ∧ a ≤ W) (hb : 1 ≤ b ∧ b ≤ H) : fc W H a b % W = a - 1 ∧ fc W H a b / W = b - 1 ∧ fc W H a b < W * H := by
  unfold fc
  rw [if_pos ⟨ha.1, ha.2, hb.1, hb.2⟩]
  obtain ⟨h1, h2⟩ := divmod_of (j := (b - 1) * W + (a - 1)) (W := W) rfl (by omega)
  exact ⟨h2, h1, row_lt (by omega) (by omega)⟩
theorem fc_lt {a b : Nat} (h : fc W H a b < W * H) : (1 ≤ a ∧ a ≤ W) ∧ (1 ≤ b ∧ b ≤ H) := by
  unfold fc at h
  split at h
  · omega
  · omega
theorem pt_mod {i j : Nat} (hi : i ≤ W) : pt W i j % (W + 1) = i ∧ pt W i j / (W + 1) = j := by
  obtain ⟨h1, h2⟩ := divmod_of (j := pt W i j) (W := W + 1) rfl (by omega)
  exact ⟨h2, h1⟩
theorem fc_self {f : Nat} (hf : f < W * H) : fc W H (f % W + 1) (f / W + 1) = f := by
  have hW : 0 < W := Nat.pos_of_ne_zero fun e => by rw [e, Nat.zero_mul] at hf; omega
  unfold fc
  rw [if_pos ⟨Nat.le_add_left _ _, Nat.mod_lt f hW, Nat.le_add_left _ _, Nat.div_lt_of_lt_mul hf⟩]
  have := Nat.div_add_mod f W
  rw [Nat.add_sub_cancel, Nat.add_sub_cancel, Nat.mul_comm]; exact this
theorem same_place {f g : Nat} (h1 : f % W = g % W) (h2 : f / W = g / W) : f = g := by
  have a := Nat.div_add_mod f W
  have b := Nat.div_add_mod g W
  rw [← a, ← b, h1, h2]
/-- pixel f is dark and has corner v -/
def Tc (W : Nat) (dk : List Bool) (v f : Nat) : Prop := dk[f]? = some true ∧ f % W ≤ v % (W + 1) ∧ v % (W + 1) ≤ f % W + 1 ∧ f / W ≤ v / (W + 1) ∧ v / (W + 1) ≤ f / W + 1
theorem Tc.rr (hn : dk.length = W * H) (hW : 0 < W) {v f g : Nat} (hf : Tc W dk v f) (hg : Tc W dk v g) : RR W true dk true f g := by
  by_cases e : f % W = g % W ∧ f / W = g / W
  · rw [same_place e.1 e.2]; exact Cl.refl _
  · obtain ⟨f0, f1, f2, f3, f4⟩ := hf
    obtain ⟨g0, g1, g2, g3, g4⟩ := hg
    refine rr_of_cn hn hW f0 g0 ⟨?_, ?_, ?_, ?_, e, fun h => by cases h⟩
    all_goals
      generalize f % W = a at *
      generalize f / W = b at *
      generalize g % W = c at *
      generalize g / W = d at *
      omega
def dark (dk : List Bool) (f : Nat) : Bool := dk.getD f false
theorem dark_iff {f : Nat} : dark dk f = true ↔ dk[f]? = some true := by
  unfold dark
  rw [List.getD_eq_getElem?_getD]
  cases h : dk[f]? with
  | none => simp
  | some b => simp
theorem dark_lt (hn : dk.length = W * H) {f : Nat} (h : dark dk f = true) : f < W * H := by
  rw [← hn]; exact (List.getElem?_eq_some_iff.1 (dark_iff.1 h)).1
theorem light_of (hn : dk.length = W * H) {f : Nat} (h : dark dk f = false) (hf : f < W * H) : dk[f]? = some false := by
  rcases dk_cases (dk := dk) (i := f) (by omega) with h1 | h1
  · rw [dark_iff.2 h1] at h; cases h
  · exact h1
theorem dark_light {f : Nat} (h : dk[f]? = some false) : dark dk f = false := by unfold dark; rw [List.getD_eq_getElem?_getD, h]; rfl
/-- the edges of dark pixels -/
def dEg (dk : List Bool) (e : Eg) : Bool := dark dk e.f || dark dk e.g
theorem eg_f (hn : dk.length = W * H) (hW : 0 < W) {e : Eg} (he : e ∈ egs W H) (hd : dark dk e.f = true) : Tc W dk e.u e.f ∧ Tc W dk e.v e.f := by
  have hlt := dark_lt hn hd
  rcases egs_mem.1 he with ⟨i, j, hi, hj, rfl⟩ | ⟨i, j, hi, hj, rfl⟩
  · obtain ⟨b1, b2⟩ := fc_lt hlt
    obtain ⟨m1, m2, _⟩ := fc_mod hW b1 b2
    obtain ⟨p1, p2⟩ := pt_mod (W := W) (j := j) (show i ≤ W by omega)
    obtain ⟨p3, p4⟩ := pt_mod (W := W) (j := j) (show i + 1 ≤ W by omega)
    refine ⟨⟨dark_iff.1 hd, ?_⟩, ⟨dark_iff.1 hd, ?_⟩⟩ <;> (simp only [hz, p1, p2, p3, p4, m1, m2]; omega)
  · obtain ⟨b1, b2⟩ := fc_lt hlt
    obtain ⟨m1, m2, _⟩ := fc_mod hW b1 b2
    obtain ⟨p1, p2⟩ := pt_mod (W := W) (j := j) (show i ≤ W by omega)
    obtain ⟨p3, p4⟩ := pt_mod (W := W) (j := j + 1) (show i ≤ W by omega)
    refine ⟨⟨dark_iff.1 hd, ?_⟩, ⟨dark_iff.1 hd, ?_⟩⟩ <;> (simp only [vt, p1, p2, p3, p4, m1, m2]; omega)
theorem eg_g (hn : dk.length = W * H) (hW : 0 < W) {e : Eg} (he : e ∈ egs W H) (hd : dark dk e.g = true) : Tc W dk e.u e.g ∧ Tc W dk e.v e.g := by
  have hlt := dark_lt hn hd
  rcases egs_mem.1 he with ⟨i, j, hi, hj, rfl⟩ | ⟨i, j, hi, hj, rfl⟩
  · obtain ⟨b1, b2⟩ := fc_lt hlt
    obtain ⟨m1, m2, _⟩ := fc_mod hW b1 b2
    obtain ⟨p1, p2⟩ := pt_mod (W := W) (j := j) (show i ≤ W by omega)
    obtain ⟨p3, p4⟩ := pt_mod (W := W) (j := j) (show i + 1 ≤ W by omega)
    refine ⟨⟨dark_iff.1 hd, ?_⟩, ⟨dark_iff.1 hd, ?_⟩⟩ <;> (simp only [hz, p1, p2, p3, p4, m1, m2]; omega)
  · obtain ⟨b1, b2⟩ := fc_lt hlt
    obtain ⟨m1, m2, _⟩ := fc_mod hW b1 b2
    obtain ⟨p1, p2⟩ := pt_mod (W := W) (j := j) (show i ≤ W by omega)
    obtain ⟨p3, p4⟩ := pt_mod (W := W) (j := j + 1) (show i ≤ W by omega)
    refine ⟨⟨dark_iff.1 hd, ?_⟩, ⟨dark_iff.1 hd, ?_⟩⟩ <;> (simp only [vt, p1, p2, p3, p4, m1, m2]; omega)
abbrev CP (W H : Nat) (dk : List Bool) : Nat → Nat → Prop := Cl (Pr (((egs W H).filter (dEg dk)).map Eg.pr))
theorem cp_tc (hn : dk.length = W * H) (hW : 0 < W) {u v : Nat} (h : CP W H dk u v) : u = v ∨ ((∃ f, Tc W dk u f) ∧ (∃ g, Tc W dk v g) ∧ ∀ f g, Tc W dk u f → Tc W dk v g → RR W true dk true f g) := by
  induction h with
  | refl i => exact .inl rfl
  | edge e =>
    obtain ⟨x, hx, hp⟩ := List.mem_map.1 e
    obtain ⟨hx1, hx2⟩ := List.mem_filter.1 hx
    obtain ⟨rfl, rfl⟩ : x.u = _ ∧ x.v = _ := Prod.mk.inj hp
    have : ∃ c, Tc W dk x.u c ∧ Tc W dk x.v c := by
      unfold dEg at hx2
      rcases Bool.or_eq_true_iff.1 hx2 with h | h
      · exact ⟨_, eg_f hn hW hx1 h⟩
      · exact ⟨_, eg_g hn hW hx1 h⟩
    obtain ⟨c, c1, c2⟩ := this
    exact .inr ⟨⟨c, c1⟩, ⟨c, c2⟩, fun f g hf hg => (hf.rr hn hW c1).trans (c2.rr hn hW hg)⟩
  | symm _ ih =>
    rcases ih with rfl | ⟨h1, h2, h3⟩
    · exact .inl rfl
    · exact .inr ⟨h2, h1, fun f g hf hg => (h3 g f hg hf).symm⟩
  | trans _ _ i1 i2 =>
    rcases i1 with rfl | ⟨h1, h2, h3⟩
    · exact i2
    · rcases i2 with rfl | ⟨k1, k2, k3⟩
      · exact .inr ⟨h1, h2, h3⟩
      · obtain ⟨c, hc⟩ := h2
        exact .inr ⟨h1, k2, fun f g hf hg => (h3 f c hf hc).trans (k3 c g hc hg)⟩
theorem cp_rr (hn : dk.length = W * H) (hW : 0 < W) {u v f g : Nat} (h : CP W H dk u v) (hf : Tc W dk u f) (hg : Tc W dk v g) : RR W true dk true f g := by
  rcases cp_tc hn hW h with rfl | ⟨_, _, h3⟩
  · exact hf.rr hn hW hg
  · exact h3 f g hf hg
def corner (W f : Nat) : Nat := pt W (f % W) (f / W)
theorem corner_tc (hW : 0 < W) {f : Nat} (hd : dk[f]? = some true) : Tc W dk (corner W f) f := by
  obtain ⟨p1, p2⟩ := pt_mod (W := W) (j := f / W) (show f % W ≤ W by have := Nat.mod_lt f hW; omega)
  exact ⟨hd, by rw [corner, p1, p2]; exact ⟨Nat.le_refl _, Nat.le_succ _, Nat.le_refl _, Nat.le_succ _⟩⟩
theorem tc_corner (hn : dk.length = W * H) (hW : 0 < W) {v f : Nat} (h : Tc W dk v f) : CP W H dk (corner W f) v := by
  obtain ⟨hd, h1, h2, h3, h4⟩ := h
  have hlt := dark_lt hn (dark_iff.2 hd)
  have hx := Nat.mod_lt f hW
  have hy : f / W < H := Nat.div_lt_of_lt_mul hlt
  have hself := fc_self hlt
  have hv : v = pt W (v % (W + 1)) (v / (W + 1)) := by unfold pt; rw [Nat.mul_comm, Nat.div_add_mod]
  have dk' : dark dk (fc W H (f % W + 1) (f / W + 1)) = true := by rw [hself]; exact dark_iff.2 hd
  unfold corner
  rw [hv]
  generalize f % W = x at *
  generalize f / W = y at *
  generalize v % (W + 1) = a at *
  generalize v / (W + 1) = b at *
  have hzE : ∀ {i j}, i < W → j ≤ H → dEg dk (hz W H i j) = true → CP W H dk (pt W i j) (pt W (i + 1) j) := fun hi hj hd => .edge (List.mem_map.2 ⟨_, List.mem_filter.2 ⟨egs_mem.2 (.inl ⟨_, _, hi, hj, rfl⟩), hd⟩, rfl⟩)
  have vtE : ∀ {i j}, i ≤ W → j < H → dEg dk (vt W H i j) = true → CP W H dk (pt W i j) (pt W i (j + 1)) := fun hi hj hd => .edge (List.mem_map.2 ⟨_, List.mem_filter.2 ⟨egs_mem.2 (.inr ⟨_, _, hi, hj, rfl⟩), hd⟩, rfl⟩)
  have k1 : CP W H dk (pt W x y) (pt W (x + 1) y) := hzE hx (by omega) (by simp [dEg, hz, dk'])
  have k2 : CP W H dk (pt W x y) (pt W x (y + 1)) := vtE (by omega) hy (by simp [dEg, vt, dk'])
  have k3 : CP W H dk (pt W (x + 1) y) (pt W (x + 1) (y + 1)) := vtE (by omega) hy (by simp [dEg, vt, dk'])
  rcases (show a = x ∨ a = x + 1 by omega) with rfl | rfl <;> rcases (show b = y ∨ b = y + 1 by omega) with rfl | rfl
  · exact Cl.refl _
  · exact k2
  · exact k1
  · exact k1.trans k3
theorem rr_corner (hn : dk.length = W * H) (hW : 0 < W) {f g : Nat} (h : RR W true dk true f g) : CP W H dk (corner W f) (corner W g) := by
  induction h with
  | refl i => exact Cl.refl _
  | symm _ ih => exact ih.symm
  | trans _ _ i1 i2 => exact i1.trans i2
  | @edge f g e =>
    obtain ⟨c1, c2, c3, c4, _, _⟩ := cn_of_ed hn hW e
    have mf := Nat.mod_lt f hW
    have mg := Nat.mod_lt g hW
    obtain ⟨p1, p2⟩ := pt_mod (W := W) (i := max (f % W) (g % W)) (j := max (f / W) (g / W)) (by omega)
    have t1 : Tc W dk (pt W (max (f % W) (g % W)) (max (f / W) (g / W))) f := ⟨e.2.1, by rw [p1, p2]; generalize f % W = a at *; generalize f / W = b at *; generalize g % W = c at *; generalize g / W = d at *; omega⟩
    have t2 : Tc W dk (pt W (max (f % W) (g % W)) (max (f / W) (g / W))) g := ⟨e.2.2.1, by rw [p1, p2]; generalize f % W = a at *; generalize f / W = b at *; generalize g % W = c at *; generalize g / W = d at *; omega⟩
    exact (tc_corner hn hW t1).trans (tc_corner hn hW t2).symm
/-- a corner of a dark pixel -/
def tch (W H : Nat) (dk : List Bool) (v : Nat) : Bool := dark dk (fc W H (v % (W + 1)) (v / (W + 1))) || dark dk (fc W H (v % (W + 1) + 1) (v / (W + 1))) || dark dk (fc W H (v % (W + 1)) (v / (W + 1) + 1)) || dark dk (fc W H (v % (W + 1) + 1) (v / (W + 1) + 1))
theorem tch_iff (hn : dk.length = W * H) (hW : 0 < W) {v : Nat} : tch W H dk v = true ↔ ∃ f, Tc W dk v f := by
  constructor
  · intro h
    have one : ∀ {a b : Nat}, dark dk (fc W H a b) = true → v % (W + 1) ≤ a → a ≤ v % (W + 1) + 1 → v / (W + 1) ≤ b → b ≤ v / (W + 1) + 1 → ∃ f, Tc W dk v f := fun hd h1 h2 h3 h4 => by
      obtain ⟨b1, b2⟩ := fc_lt (dark_lt hn hd)
      obtain ⟨m1, m2, _⟩ := fc_mod hW b1 b2
      refine ⟨_, dark_iff.1 hd, ?_⟩
      rw [m1, m2]
      generalize v % (W + 1) = x at *
      generalize v / (W + 1) = y at *
      omega
    unfold tch at h
    simp only [Bool.or_eq_true] at h
    rcases h with ((h | h) | h) | h
    · exact one h (Nat.le_refl _) (Nat.le_succ _) (Nat.le_refl _) (Nat.le_succ _)
    · exact one h (Nat.le_succ _) (Nat.le_refl _) (Nat.le_refl _) (Nat.le_succ _)
    · exact one h (Nat.le_refl _) (Nat.le_succ _) (Nat.le_succ _) (Nat.le_refl _)
    · exact one h (Nat.le_succ _) (Nat.le_refl _) (Nat.le_succ _) (Nat.le_refl _)
  · rintro ⟨f, hd, h1, h2, h3, h4⟩
    have hdk := dark_iff.2 hd
    rw [← fc_self (dark_lt hn hdk)] at hdk
    unfold tch
    generalize f % W = x at *
    generalize f / W = y at *
    generalize v % (W + 1) = a at *
    generalize v / (W + 1) = b at *
    rcases (show a = x ∨ a = x + 1 by omega) with rfl | rfl <;> rcases (show b = y ∨ b = y + 1 by omega) with rfl | rfl <;> simp [hdk]
/-- the components of the edges of dark pixels -/
theorem cc_dark (hn : dk.length = W * H) (hW : 0 < W) : cc ((W + 1) * (H + 1)) (((egs W H).filter (dEg dk)).map Eg.pr) = nf (DD dk true) (RR W true dk true) dk.length + ((List.range ((W + 1) * (H + 1))).filter fun v => !tch W H dk v).length := by
  obtain ⟨F, hF⟩ : ∃ F, F = (List.range dk.length).filter fun i => decide (Fst (DD dk true) (RR W true dk true) i) := ⟨_, rfl⟩
  have hm : ∀ f, f ∈ F ↔ Fst (DD dk true) (RR W true dk true) f := fun f => by
    rw [hF, List.mem_filter, List.mem_range, decide_eq_true_eq]
    exact ⟨fun h => h.2, fun h => ⟨(List.getElem?_eq_some_iff.1 h.1).1, h⟩⟩
  have ndF : F.Nodup := by rw [hF]; exact List.nodup_range.sublist List.filter_sublist
  have feq : ∀ f ∈ F, ∀ g ∈ F, CP W H dk (corner W f) (corner W g) → f = g := fun f hf g hg h =>
    first_eq (R := RR W true dk true) (fun _ _ => Cl.symm) (fun _ _ _ => Cl.trans) ((hm f).1 hf) ((hm g).1 hg) (cp_rr hn hW h (corner_tc hW ((hm f).1 hf).1) (corner_tc hW ((hm g).1 hg).1)) (Cl.refl _)
  have un : ∀ v, v ∈ ((List.range ((W + 1) * (H + 1))).filter fun v => !tch W H dk v) → ∀ f, ¬ Tc W dk v f := fun v hv f hf => by
    have := (List.mem_filter.1 hv).2
    rw [(tch_iff hn hW).2 ⟨f, hf⟩] at this; cases this
  have eF : F.length = (F.map (corner W)).length := by rw [List.length_map]
  rw [nf_filter, ← hF, eF, ← List.length_append]
  refine cc_tr ?_ (fun x hx => ?_) (fun x hx y hy hR => ?_) fun v hv => ?_
  · refine List.nodup_append.2 ⟨nodup_map_on ndF fun f hf g hg e => feq f hf g hg (by rw [e]; exact Cl.refl _), List.nodup_range.sublist List.filter_sublist, fun a ha b hb e => ?_⟩
    obtain ⟨f, hf, rfl⟩ := List.mem_map.1 ha
    exact un b hb f (e ▸ corner_tc hW ((hm f).1 hf).1)
  · rcases List.mem_append.1 hx with h | h
    · obtain ⟨f, hf, rfl⟩ := List.mem_map.1 h
      have hlt := dark_lt hn (dark_iff.2 ((hm f).1 hf).1)
      have h1 := Nat.mod_lt f hW
      have h2 : f / W < H := Nat.div_lt_of_lt_mul hlt
      exact pt_lt (by omega) (by omega)
    · exact List.mem_range.1 (List.mem_filter.1 h).1
  · rcases List.mem_append.1 hx with h | h <;> rcases List.mem_append.1 hy with k | k
    · obtain ⟨f, hf, rfl⟩ := List.mem_map.1 h
      obtain ⟨g, hg, rfl⟩ := List.mem_map.1 k
      rw [feq f hf g hg hR]
    · rcases cp_tc hn hW hR with e | ⟨_, ⟨g, hg⟩, _⟩
      · exact e
      · exact (un y k g hg).elim
    · rcases cp_tc hn hW hR with e | ⟨⟨g, hg⟩, _⟩
      · exact e
      · exact (un x h g hg).elim
    · rcases cp_tc hn hW hR with e | ⟨⟨g, hg⟩, _⟩
      · exact e
      · exact (un x h g hg).elim
  · by_cases ht : tch W H dk v = true
    · obtain ⟨f, hf⟩ := (tch_iff hn hW).1 ht
      obtain ⟨g, _, g2, g3⟩ := first_of (D := DD dk true) (R := RR W true dk true) Cl.refl (fun _ _ _ => Cl.trans) f hf.1
      exact ⟨corner W g, List.mem_append.2 (.inl (List.mem_map.2 ⟨g, (hm g).2 g2, rfl⟩)), (rr_corner hn hW g3).trans (tc_corner hn hW hf)⟩
    · exact ⟨v, List.mem_append.2 (.inr (List.mem_filter.2 ⟨List.mem_range.2 hv, by simpa using ht⟩)), Cl.refl _⟩
/-! the dual graph -/
abbrev CD (W H : Nat) (dk : List Bool) : Nat → Nat → Prop := Cl (Pr (((egs W H).filter fun e => !dEg dk e).map Eg.du))
/-- outside, or joined with the border -/
def Ou (W H : Nat) (dk : List Bool) (f : Nat) : Prop := f = W * H ∨ (dk[f]? = some false ∧ ∃ j, dk[j]? = some false ∧ RR W false dk false f j ∧ Bord W H j)
def Jd (W H : Nat) (dk : List Bool) (f g : Nat) : Prop := f = g ∨ (dk[f]? = some false ∧ dk[g]? = some false ∧ RR W false dk false f g) ∨ (Ou W H dk f ∧ Ou W H dk g)
theorem fc_cases (a b : Nat) : ((1 ≤ a ∧ a ≤ W) ∧ (1 ≤ b ∧ b ≤ H)) ∨ (¬ (1 ≤ a ∧ a ≤ W ∧ 1 ≤ b ∧ b ≤ H) ∧ fc W H a b = W * H) := by
  by_cases h : 1 ≤ a ∧ a ≤ W ∧ 1 ≤ b ∧ b ≤ H
  · exact .inl ⟨⟨h.1, h.2.1⟩, ⟨h.2.2.1, h.2.2.2⟩⟩
  · exact .inr ⟨h, fc_out h⟩
theorem jd_edge (hn : dk.length = W * H) (hW : 0 < W) {a b c d : Nat} (hc : (c = a + 1 ∧ d = b) ∨ (c = a ∧ d = b + 1)) (h1 : dark dk (fc W H a b) = false) (h2 : dark dk (fc W H c d) = false) : Jd W H dk (fc W H a b) (fc W H c d) := by
  rcases fc_cases (W := W) (H := H) a b with ⟨a1, a2⟩ | ⟨a1, a2⟩ <;> rcases fc_cases (W := W) (H := H) c d with ⟨c1, c2⟩ | ⟨c1, c2⟩
  · obtain ⟨m1, m2, m3⟩ := fc_mod hW a1 a2
    obtain ⟨n1, n2, n3⟩ := fc_mod hW c1 c2
    have l1 := light_of hn h1 m3
    have l2 := light_of hn h2 n3
    refine .inr (.inl ⟨l1, l2, rr_of_cn hn hW l1 l2 ?_⟩)
    rw [m1, m2, n1, n2]
    refine ⟨by omega, by omega, by omega, by omega, by omega, fun _ => by omega⟩
  · obtain ⟨m1, m2, m3⟩ := fc_mod hW a1 a2
    have l1 := light_of hn h1 m3
    refine .inr (.inr ⟨.inr ⟨l1, _, l1, Cl.refl _, ?_⟩, .inl c2⟩)
    unfold Bord; rw [m1, m2]; omega
  · obtain ⟨n1, n2, n3⟩ := fc_mod hW c1 c2
    have l2 := light_of hn h2 n3
    refine .inr (.inr ⟨.inl a2, .inr ⟨l2, _, l2, Cl.refl _, ?_⟩⟩)
    unfold Bord; rw [n1, n2]; omega
  · rw [a2, c2]; exact .inl rfl
theorem cd_jd (hn : dk.length = W * H) (hW : 0 < W) {f g : Nat} (h : CD W H dk f g) : Jd W H dk f g := by
  induction h with
  | refl i => exact .inl rfl
  | edge e =>
    obtain ⟨x, hx, hp⟩ := List.mem_map.1 e
    obtain ⟨hx1, hx2⟩ := List.mem_filter.1 hx
    obtain ⟨rfl, rfl⟩ : x.f = _ ∧ x.g = _ := Prod.mk.inj hp
    have hx2 : dark dk x.f = false ∧ dark dk x.g = false := by simpa [dEg] using hx2
    rcases egs_mem.1 hx1 with ⟨i, j, hi, hj, rfl⟩ | ⟨i, j, hi, hj, rfl⟩
    · exact jd_edge hn hW (.inr ⟨rfl, rfl⟩) hx2.1 hx2.2
    · exact jd_edge hn hW (.inl ⟨rfl, rfl⟩) hx2.1 hx2.2
  | symm _ ih =>
    rcases ih with rfl | ⟨h1, h2, h3⟩ | ⟨h1, h2⟩
    · exact .inl rfl
    · exact .inr (.inl ⟨h2, h1, h3.symm⟩)
    · exact .inr (.inr ⟨h2, h1⟩)
  | trans _ _ i1 i2 =>
    have lt : ∀ {f : Nat}, dk[f]? = some false → f ≠ W * H := fun h => by have := (List.getElem?_eq_some_iff.1 h).1; omega
    rcases i1 with rfl | ⟨h1, h2, h3⟩ | ⟨h1, h2⟩
    · exact i2
    · rcases i2 with rfl | ⟨k1, k2, k3⟩ | ⟨k1, k2⟩
      · exact .inr (.inl ⟨h1, h2, h3⟩)
      · exact .inr (.inl ⟨h1, k2, h3.trans k3⟩)
      · refine .inr (.inr ⟨?_, k2⟩)
        rcases k1 with k1 | ⟨_, j, j1, j2, j3⟩
        · exact (lt h2 k1).elim
        · exact .inr ⟨h1, j, j1, h3.trans j2, j3⟩
    · rcases i2 with rfl | ⟨k1, k2, k3⟩ | ⟨k1, k2⟩
      · exact .inr (.inr ⟨h1, h2⟩)
      · refine .inr (.inr ⟨h1, ?_⟩)
        rcases h2 with h2 | ⟨_, j, j1, j2, j3⟩
        · exact (lt k1 h2).elim
        · exact .inr ⟨k2, j, j1, k3.symm.trans j2, j3⟩
      · exact .inr (.inr ⟨h1, k2⟩)
theorem cd_hz {i j : Nat} (hi : i < W) (hj : j ≤ H) (h1 : dark dk (fc W H (i + 1) j) = false) (h2 : dark dk (fc W H (i + 1) (j + 1)) = false) : CD W H dk (fc W H (i + 1) j) (fc W H (i + 1) (j + 1)) :=
  .edge (List.mem_map.2 ⟨hz W H i j, List.mem_filter.2 ⟨egs_mem.2 (.inl ⟨_, _, hi, hj, rfl⟩), by simp [dEg, hz, h1, h2]⟩, rfl⟩)
theorem cd_vt {i j : Nat} (hi : i ≤ W) (hj : j < H) (h1 : dark dk (fc W H i (j + 1)) = false) (h2 : dark dk (fc W H (i + 1) (j + 1)) = false) : CD W H dk (fc W H i (j + 1)) (fc W H (i + 1) (j + 1)) :=
  .edge (List.mem_map.2 ⟨vt W H i j, List.mem_filter.2 ⟨egs_mem.2 (.inr ⟨_, _, hi, hj, rfl⟩), by simp [dEg, vt, h1, h2]⟩, rfl⟩)
theorem rr_cd (hn : dk.length = W * H) (hW : 0 < W) {f g : Nat} (h : RR W false dk false f g) : CD W H dk f g := by
  induction h with
  | refl i => exact Cl.refl _
  | symm _ ih => exact ih.symm
  | trans _ _ i1 i2 => exact i1.trans i2
  | @edge f g e =>
    obtain ⟨c1, c2, c3, c4, c5, c6⟩ := cn_of_ed hn hW e
    have c6 := c6 rfl
    have lf : f < W * H := by rw [← hn]; exact (List.getElem?_eq_some_iff.1 e.2.1).1
    have lg : g < W * H := by rw [← hn]; exact (List.getElem?_eq_some_iff.1 e.2.2.1).1
    have df := dark_light e.2.1
    have dg := dark_light e.2.2.1
    have mf := Nat.mod_lt f hW
    have mg := Nat.mod_lt g hW
    have yf : f / W < H := Nat.div_lt_of_lt_mul lf
    have yg : g / W < H := Nat.div_lt_of_lt_mul lg
    rw [← fc_self lf] at df ⊢
    rw [← fc_self lg] at dg ⊢
    generalize f % W = a at *
    generalize f / W = b at *
    generalize g % W = c at *
    generalize g / W = d at *
    rcases (show (c = a + 1 ∧ d = b) ∨ (a = c + 1 ∧ d = b) ∨ (c = a ∧ d = b + 1) ∨ (c = a ∧ b = d + 1) by omega) with ⟨rfl, rfl⟩ | ⟨rfl, rfl⟩ | ⟨rfl, rfl⟩ | ⟨rfl, rfl⟩
    · exact cd_vt (by omega) yf df dg
    · exact (cd_vt (by omega) yg dg df).symm
    · exact cd_hz mf (by omega) df dg
    · exact (cd_hz mg (by omega) dg df).symm
theorem bord_cd (hn : dk.length = W * H) (hW : 0 < W) {f : Nat} (hd : dk[f]? = some false) (hb : Bord W H f) : CD W H dk (W * H) f := by
  have lf : f < W * H := by rw [← hn]; exact (List.getElem?_eq_some_iff.1 hd).1
  have df := dark_light hd
  have mf := Nat.mod_lt f hW
  have yf : f / W < H := Nat.div_lt_of_lt_mul lf
  have hout : dark dk (W * H) = false := by unfold dark; rw [← hn]; simp
  unfold Bord at hb
  rw [← fc_self lf] at df ⊢
  generalize f % W = a at *
  generalize f / W = b at *
  rcases hb with rfl | rfl | rfl | rfl
  · have o : fc W H 0 (b + 1) = W * H := fc_out (by omega)
    have := cd_vt (dk := dk) (i := 0) (j := b) (by omega) yf (by rw [o]; exact hout) df
    rw [o] at this; exact this
  · have o : fc (a + 1) H (a + 1 + 1) (b + 1) = (a + 1) * H := fc_out (by omega)
    have := cd_vt (dk := dk) (i := a + 1) (j := b) (by omega) yf df (by rw [o]; exact hout)
    rw [o] at this; exact this.symm
  · have o : fc W H (a + 1) 0 = W * H := fc_out (by omega)
    have := cd_hz (dk := dk) (i := a) (j := 0) mf (by omega) (by rw [o]; exact hout) df
    rw [o] at this; exact this
  · have o : fc W (b + 1) (a + 1) (b + 1 + 1) = W * (b + 1) := fc_out (by omega)
    have := cd_hz (dk := dk) (i := a) (j := b + 1) mf (by omega) df (by rw [o]; exact hout)
    rw [o] at this; exact this.symm
theorem cc_light (hn : dk.length = W * H) (hW : 0 < W) : cc (W * H + 1) (((egs W H).filter fun e => !dEg dk e).map Eg.du) = ((List.range (H * W)).filter (dark dk)).length + nh W H dk + 1 := by
  have lt : ∀ {f : Nat} {b : Bool}, dk[f]? = some b → f < W * H := fun h => by have := (List.getElem?_eq_some_iff.1 h).1; omega
  have hd : ∀ f, f ∈ ((List.range (H * W)).filter (dark dk)) ↔ dk[f]? = some true := fun f => by
    rw [List.mem_filter, List.mem_range, dark_iff, Nat.mul_comm]; exact ⟨fun h => h.2, fun h => ⟨lt h, h⟩⟩
  have nod : ∀ {f : Nat}, dk[f]? = some true → ¬ Ou W H dk f := fun h k => by
    rcases k with rfl | ⟨k, _⟩
    · have := lt h; omega
    · rw [h] at k; cases k
  have nol : ∀ {f : Nat}, f ∈ hFst W H dk → ¬ Ou W H dk f := fun h k => by
    obtain ⟨h1, h2, h3⟩ := hFst_mem.1 h
    rcases k with rfl | ⟨_, j, j1, j2, j3⟩
    · have := lt h2; omega
    · exact h3 j j1 j2 j3
  have e : ((List.range (H * W)).filter (dark dk)).length + nh W H dk + 1 = (((List.range (H * W)).filter (dark dk)) ++ hFst W H dk ++ [W * H]).length := by rw [List.length_append, List.length_append]; rfl
  rw [e]
  refine cc_tr ?_ (fun x hx => ?_) (fun x hx y hy hR => ?_) fun f hf => ?_
  · refine List.nodup_append.2 ⟨List.nodup_append.2 ⟨List.nodup_range.sublist List.filter_sublist, hFst_nodup W H dk, fun a ha b hb e => ?_⟩, by simp, fun a ha b hb e => ?_⟩
    · have h1 := (hd a).1 ha
      have h2 : dk[b]? = some false := (hFst_mem.1 hb).2.1
      rw [← e, h1] at h2; cases h2
    · rw [List.mem_singleton] at hb
      rcases List.mem_append.1 ha with h | h
      · have := lt ((hd a).1 h); omega
      · have := lt (hFst_mem.1 h).2.1; omega
  · simp only [List.mem_append, List.mem_singleton] at hx
    rcases hx with (h | h) | rfl
    · have := lt ((hd x).1 h); omega
    · have := lt (hFst_mem.1 h).2.1; omega
    · omega
  · have J := cd_jd hn hW hR
    simp only [List.mem_append, List.mem_singleton] at hx hy
    rcases J with h | ⟨h1, h2, h3⟩ | ⟨h1, h2⟩
    · exact h
    · rcases hx with (hx | hx) | rfl
      · rw [(hd x).1 hx] at h1; cases h1
      · rcases hy with (hy | hy) | rfl
        · rw [(hd y).1 hy] at h2; cases h2
        · exact first_eq (R := RR W false dk false) (fun _ _ => Cl.symm) (fun _ _ _ => Cl.trans) (hFst_mem.1 hx).1 (hFst_mem.1 hy).1 h3 (Cl.refl _)
        · have := lt h2; omega
      · have := lt h1; omega
    · rcases hx with (hx | hx) | rfl
      · exact (nod ((hd x).1 hx) h1).elim
      · exact (nol hx h1).elim
      · rcases hy with (hy | hy) | rfl
        · exact (nod ((hd y).1 hy) h2).elim
        · exact (nol hy h2).elim
        · rfl
  · by_cases e : f = W * H
    · exact ⟨W * H, by simp, by rw [e]; exact Cl.refl _⟩
    · rcases dk_cases (dk := dk) (i := f) (by omega) with h | h
      · exact ⟨f, by simp only [List.mem_append]; exact .inl (.inl ((hd f).2 h)), Cl.refl _⟩
      · by_cases hh : Hol W H dk f
        · obtain ⟨g, _, g2, g3⟩ := first_of (D := DD dk false) (R := RR W false dk false) Cl.refl (fun _ _ _ => Cl.trans) f h
          exact ⟨g, by simp only [List.mem_append]; exact .inl (.inr (hFst_mem.2 ⟨g2, hh.of g2.1 g3.symm⟩)), rr_cd hn hW g3⟩
        · have : ∃ j, dk[j]? = some false ∧ RR W false dk false f j ∧ Bord W H j := byContradiction fun hc => hh ⟨h, fun j hj hR hb => hc ⟨j, hj, hR, hb⟩⟩
          obtain ⟨j, j1, j2, j3⟩ := this
          exact ⟨W * H, by simp, (bord_cd hn hW j1 j3).trans (rr_cd hn hW j2).symm⟩
/-- the Euler number is a local count -/
theorem euler_local (hn : dk.length = W * H) (hW : 0 < W) (hH : 0 < H) :
    4 * ((nf (DD dk true) (RR W true dk true) dk.length : Int) - (nh W H dk : Int)) = si (H + 1) fun j => si (W + 1) fun i => q4 (dark dk (fc W H i j)) (dark dk (fc W H (i + 1) j)) (dark dk (fc W H i (j + 1))) (dark dk (fc W H (i + 1) (j + 1))) := by
  rw [← local_count W H (dark dk) (by unfold dark; rw [← hn]; simp)]
  have hp : ((egs W H).filter (dEg dk) ++ (egs W H).filter fun e => !dEg dk e).Perm (egs W H) := List.filter_append_perm _ _
  have he := (egs_pl W H hH).euler hp
  rw [cc_dark hn hW, cc_light hn hW] at he
  have e1 : (((List.range (H * W)).filter (dark dk)).length : Int) = si (H * W) fun f => b01 (dark dk f) := si_filter _ _
  have e2 : (((List.range ((W + 1) * (H + 1))).filter fun v => !tch W H dk v).length : Int) = si ((W + 1) * (H + 1)) fun v => b01 (!tch W H dk v) := si_filter _ _
  have e3 : (si ((W + 1) * (H + 1)) fun v => b01 (!tch W H dk v)) + (si ((W + 1) * (H + 1)) fun v => b01 (tch W H dk v)) = (((W + 1) * (H + 1) : Nat) : Int) := by
    rw [← si_add]
    generalize (W + 1) * (H + 1) = n
    induction n with
    | zero => rfl
    | succ n ih => rw [si, ih]; cases tch W H dk n <;> simp [b01]
  have e4 : ((egs W H).filter fun e => dark dk e.f || dark dk e.g).length = ((egs W H).filter (dEg dk)).length := rfl
  have e5 : (si ((H + 1) * (W + 1)) (fun v => b01 (dark dk (fc W H (v % (W + 1)) (v / (W + 1))) || dark dk (fc W H (v % (W + 1) + 1) (v / (W + 1))) || dark dk (fc W H (v % (W + 1)) (v / (W + 1) + 1)) || dark dk (fc W H (v % (W + 1) + 1) (v / (W + 1) + 1))))) = si ((W + 1) * (H + 1)) fun v => b01 (tch W H dk v) := by
    rw [Nat.mul_comm (H + 1) (W + 1)]; rfl
  rw [e4, e5]
  have e6 := e2.symm
  generalize (si ((W + 1) * (H + 1)) fun v => b01 (tch W H dk v)) = s1 at *
  generalize (si ((W + 1) * (H + 1)) fun v => b01 (!tch W H dk v)) = s2 at *
  generalize (si (H * W) fun f => b01 (dark dk f)) = s3 at *
  generalize ((egs W H).filter (dEg dk)).length = n1 at *
  generalize ((List.range ((W + 1) * (H + 1))).filter fun v => !tch W H dk v).length = n2 at *
  generalize ((List.range (H * W)).filter (dark dk)).length = n3 at *
  generalize (W + 1) * (H + 1) = n4 at *
  omega
end
end Go.Proofs.Ytnnmebpahickhaa
