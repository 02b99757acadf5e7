/- prefix: package-merge: its lengths (plain). -/
import Derived.Test.YtdcgmkoonanpgaaPf30
namespace Go.Proofs.Ytdcgmkoonanpgaa
set_option linter.unusedSimpArgs false
set_option linter.unusedVariables false
open Go.RowKit Sym

theorem vl_congr : ∀ (m : Nat) {f g : Nat → Nat}, (∀ d, d < m → f d = g d) → vl m f = vl m g
  | 0, _, _, _ => rfl
  | m + 1, f, g, h => by rw [vl, vl, h 0 (by omega), vl_congr m fun d hd => h (d + 1) (by omega)]
theorem sm_congr : ∀ (m : Nat) {f g : Nat → Nat}, (∀ d, d < m → f d = g d) → sm m f = sm m g
  | 0, _, _, _ => rfl
  | m + 1, f, g, h => by rw [sm, sm, h 0 (by omega), sm_congr m fun d hd => h (d + 1) (by omega)]
theorem vl_add : ∀ (m : Nat) (f g : Nat → Nat), vl m (fun d => f d + g d) = vl m f + vl m g
  | 0, _, _ => rfl
  | m + 1, f, g => by rw [vl, vl, vl, vl_add m, Nat.add_mul]; omega
theorem sm_add : ∀ (m : Nat) (f g : Nat → Nat), sm m (fun d => f d + g d) = sm m f + sm m g
  | 0, _, _ => rfl
  | m + 1, f, g => by rw [sm, sm, sm, sm_add m]; omega
theorem vl_zero : ∀ (m : Nat), vl m (fun _ => 0) = 0
  | 0 => rfl
  | m + 1 => by rw [vl, vl_zero m, Nat.zero_mul]
theorem sm_zero : ∀ (m : Nat), sm m (fun _ => 0) = 0
  | 0 => rfl
  | m + 1 => by rw [sm, sm_zero m]
theorem vl_one : ∀ (m c : Nat), c ≤ m → vl m (fun d => if d < c then 1 else 0) + 2 ^ (m - c) = 2 ^ m
  | 0, c, h => by simp [vl]
  | m + 1, 0, h => by
    have : vl (m + 1) (fun d => if d < 0 then 1 else 0) = vl (m + 1) fun _ => 0 := vl_congr _ fun d _ => by simp
    rw [this, vl_zero]; simp
  | m + 1, c + 1, h => by
    have ih := vl_one m c (by omega)
    have e : vl m (fun d => if d + 1 < c + 1 then 1 else 0) = vl m (fun d => if d < c then 1 else 0) := vl_congr _ fun d _ => by simp
    rw [vl, e, Nat.add_sub_add_right, if_pos (by omega), Nat.pow_succ]; omega
theorem sm_one : ∀ (m c w : Nat), c ≤ m → sm m (fun d => if d < c then w else 0) = w * c
  | 0, c, w, h => by obtain rfl : c = 0 := by omega
                     simp [sm]
  | m + 1, 0, w, h => by
    have : sm (m + 1) (fun d => if d < 0 then w else 0) = sm (m + 1) fun _ => 0 := sm_congr _ fun d _ => by simp
    rw [this, sm_zero]; simp
  | m + 1, c + 1, w, h => by
    have ih := sm_one m c w (by omega)
    have e : sm m (fun d => if d + 1 < c + 1 then w else 0) = sm m (fun d => if d < c then w else 0) := sm_congr _ fun d _ => by simp
    rw [sm, e, if_pos (by omega), ih, Nat.mul_succ]; omega
theorem kv {c : Tr → Nat} {m : Nat} : ∀ (S : List Tr), (∀ t ∈ S, c t ≤ m) → vl m (fun d => (S.filter fun t => decide (d < c t)).length) + (S.map fun t => 2 ^ (m - c t)).sum = S.length * 2 ^ m
  | [], _ => by simp [vl_zero]
  | t :: S, h => by
    have ih := kv S fun x hx => h x (by simp [hx])
    have h1 := vl_one m (c t) (h t (by simp))
    have e : vl m (fun d => ((t :: S).filter fun t => decide (d < c t)).length) = vl m (fun d => (S.filter fun t => decide (d < c t)).length) + vl m (fun d => if d < c t then 1 else 0) := by
      rw [← vl_add]
      exact vl_congr _ fun d _ => by
        rw [List.filter_cons]
        by_cases q : d < c t
        · simp [q]
        · simp [q]
    rw [e, List.map_cons, List.sum_cons, List.length_cons, Nat.succ_mul]; omega
theorem kw {c : Tr → Nat} {m : Nat} : ∀ (S : List Tr), (∀ t ∈ S, c t ≤ m) → sm m (fun d => tw (S.filter fun t => decide (d < c t))) = (S.map fun t => t.wt * c t).sum
  | [], _ => by simp [tw, sm_zero]
  | t :: S, h => by
    have ih := kw S fun x hx => h x (by simp [hx])
    have h1 := sm_one m (c t) t.wt (h t (by simp))
    have e : sm m (fun d => tw ((t :: S).filter fun t => decide (d < c t))) = sm m (fun d => tw (S.filter fun t => decide (d < c t))) + sm m (fun d => if d < c t then t.wt else 0) := by
      rw [← sm_add]
      exact sm_congr _ fun d _ => by
        rw [List.filter_cons]
        by_cases q : d < c t
        · simp [q, tw_cons]; omega
        · simp [q]
    rw [e, List.map_cons, List.sum_cons]; omega
theorem filter_take {q : Tr → Bool} : ∀ (S : List Tr) (a : Nat), (∀ p (h : p < S.length), q S[p] = true ↔ p < a) → S.filter q = S.take a
  | [], a, _ => by simp
  | x :: S, 0, h => by
    have h0 := h 0 (by simp)
    have := filter_take S 0 fun p hp => by have := h (p + 1) (by simpa using hp); simpa using this
    rw [List.filter_cons, if_neg (by simpa using h0), this]; simp
  | x :: S, a + 1, h => by
    have h0 := h 0 (by simp)
    have := filter_take S a fun p hp => by have := h (p + 1) (by simpa using hp); simpa using this
    rw [List.filter_cons, if_pos (by simpa using h0), this]; simp
theorem sub_tw : ∀ {A S : List Tr}, A.Sublist S → Srt Tr.wt S → tw (S.take A.length) ≤ tw A
  | _, _, .slnil, _ => Nat.le_refl _
  | _, _, .cons (l₁ := A) (l₂ := S) x h, hs => by
    have ih := sub_tw h (srt_tail hs)
    have hl := h.length_le
    cases hA : A.length with
    | zero => simp [tw]
    | succ n =>
      rw [hA] at ih hl
      have h1 := tw_step (l := S) (i := n) (by omega)
      have h2 := (List.pairwise_cons.1 hs).1 S[n] (List.getElem_mem _)
      rw [List.take_succ_cons, tw_cons]; omega
  | _, _, .cons_cons (l₁ := A) (l₂ := S) x h, hs => by
    have ih := sub_tw h (srt_tail hs)
    rw [List.length_cons, List.take_succ_cons, tw_cons, tw_cons]; omega
/-- fewer and fewer: how many levels a place has -/
theorem nest : ∀ (m : Nat) (a : Nat → Nat) (p : Nat), (∀ d, d + 1 < m → a (d + 1) ≤ a d) → sm m (fun d => if p < a d then 1 else 0) ≤ m ∧ ∀ d, d < m → (d < sm m (fun d => if p < a d then 1 else 0) ↔ p < a d)
  | 0, a, p, _ => ⟨by simp [sm], fun d h => absurd h (Nat.not_lt_zero _)⟩
  | m + 1, a, p, h => by
    obtain ⟨h1, h2⟩ := nest m (fun d => a (d + 1)) p fun d hd => h (d + 1) (by omega)
    rw [sm]
    by_cases c : p < a 0
    · rw [if_pos c]
      refine ⟨by omega, fun d hd => ?_⟩
      cases d with
      | zero => exact ⟨fun _ => c, fun _ => by omega⟩
      | succ d =>
        have := h2 d (by omega)
        constructor
        · intro h'; exact this.1 (by omega)
        · intro h'; have := this.2 h'; omega
    · rw [if_neg c]
      have hz : sm m (fun d => if p < a (d + 1) then 1 else 0) = 0 := by
        refine Eq.trans (sm_congr m (g := fun _ => 0) fun d hd => if_neg fun hp => ?_) (sm_zero m)
        have key : ∀ e, e ≤ m → a e ≤ a 0 := by
          intro e
          induction e with
          | zero => exact fun _ => Nat.le_refl _
          | succ e ih => intro he; have := ih (by omega); have := h e (by omega); omega
        have := key (d + 1) (by omega); omega
      rw [hz]
      refine ⟨by omega, fun d hd => ⟨fun h' => by omega, fun h' => ?_⟩⟩
      exfalso
      have key : ∀ e, e ≤ m → a e ≤ a 0 := by
        intro e
        induction e with
        | zero => exact fun _ => Nat.le_refl _
        | succ e ih => intro he; have := ih (by omega); have := h e (by omega); omega
      have := key d (by omega); omega
/-! the singles -/
def sx : Tr → Nat
  | .leaf _ s => s
  | .node _ _ => 0
def Lf (fs : List Nat) (t : Tr) : Prop := ∃ s, s < fs.length ∧ 0 < fs.getD s 0 ∧ t = Tr.leaf (fs.getD s 0) s
theorem sgl_lf {fs : List Nat} : ∀ t ∈ sgl fs, Lf fs t := fun t ht => by
  unfold sgl at ht
  obtain ⟨i, hi, h⟩ := List.mem_filterMap.1 ht
  have hi := List.mem_range.1 hi
  by_cases c : 0 < fs.getD i 0
  · rw [if_pos c] at h; exact ⟨i, hi, c, (Option.some.inj h).symm⟩
  · rw [if_neg c] at h; cases h
theorem sgl_sx (fs : List Nat) : (sgl fs).map sx = (List.range fs.length).filter fun s => decide (0 < fs.getD s 0) := by
  unfold sgl
  induction List.range fs.length with
  | nil => rfl
  | cons i l ih =>
    rw [List.filterMap_cons, List.filter_cons]
    by_cases c : 0 < fs.getD i 0
    · rw [if_pos c, if_pos (by simpa using c), ← ih]; rfl
    · rw [if_neg c, if_neg (by simpa using c), ← ih]
theorem leaf_flat {fs : List Nat} {l : List Tr} (h : ∀ t ∈ l, Lf fs t) : l.flatMap Tr.sy = l.map sx := by
  induction l with
  | nil => rfl
  | cons a l ih =>
    obtain ⟨s, _, _, rfl⟩ := h a (by simp)
    rw [List.flatMap_cons, List.map_cons, ih fun t ht => h t (by simp [ht])]; rfl
theorem count_take {l : List Nat} (hn : l.Nodup) {p a : Nat} (hp : p < l.length) : (l.take a).count l[p] = if p < a then 1 else 0 := by
  by_cases c : p < a
  · rw [if_pos c]
    have h1 : l[p] ∈ l.take a := List.mem_take_iff_getElem.2 ⟨p, by omega, rfl⟩
    have h2 : (l.take a).count l[p] ≤ 1 := List.nodup_iff_count.1 (hn.sublist (List.take_sublist _ _)) _
    have h3 := List.count_pos_iff.2 h1
    omega
  · rw [if_neg c, List.count_eq_zero]
    intro h
    obtain ⟨q, hq, he⟩ := List.mem_take_iff_getElem.1 h
    have hq' : q < l.length := by omega
    have := List.pairwise_iff_getElem.1 hn q p hq' hp (by omega)
    exact this he
/-- a sum over the symbols is one over the singles -/
theorem sum_filter {q : Nat → Bool} {h : Nat → Nat} : ∀ (l : List Nat), (∀ s ∈ l, q s = false → h s = 0) → (l.map h).sum = ((l.filter q).map h).sum
  | [], _ => rfl
  | s :: l, hz => by
    have ih := sum_filter l fun x hx => hz x (by simp [hx])
    rw [List.map_cons, List.sum_cons, ih, List.filter_cons]
    cases c : q s with
    | true => simp
    | false => rw [hz s (by simp) c]; simp
theorem sum_sgl (fs : List Nat) {h : Nat → Nat} (hz : ∀ s, s < fs.length → fs.getD s 0 = 0 → h s = 0) : ((List.range fs.length).map h).sum = ((isort Tr.wt (sgl fs)).map fun t => h (sx t)).sum := by
  rw [sum_filter (q := fun s => decide (0 < fs.getD s 0)) _ (fun s hs c => hz s (List.mem_range.1 hs) (by simpa using c)), ← sgl_sx, List.map_map]
  exact perm_sum ((isort_perm Tr.wt _ (sgl fs) rfl).symm.map _)
theorem isort_lf {fs : List Nat} : ∀ t ∈ isort Tr.wt (sgl fs), Lf fs t := fun t ht => sgl_lf t ((isort_mem _ _ _).1 ht)
theorem isort_nd (fs : List Nat) : ((isort Tr.wt (sgl fs)).map sx).Nodup := by
  have h : ((isort Tr.wt (sgl fs)).map sx).Perm ((sgl fs).map sx) := (isort_perm Tr.wt _ (sgl fs) rfl).map _
  rw [sgl_sx] at h
  exact h.nodup_iff.2 (List.nodup_range.sublist (List.filter_sublist))
theorem lf_sx {fs : List Nat} {t : Tr} (h : Lf fs t) : sx t < fs.length ∧ 0 < fs.getD (sx t) 0 ∧ t.wt = fs.getD (sx t) 0 := by
  obtain ⟨s, h1, h2, rfl⟩ := h; exact ⟨h1, h2, rfl⟩
theorem bump_get : ∀ (ss : List Nat) (L : List Int) (s : Nat), s < L.length → (bump L ss)[s]? = some (L.getD s 0 + (ss.count s : Int))
  | [], L, s, h => by simp [bump, List.getElem?_eq_getElem h]
  | x :: ss, L, s, h => by
    show (bump (L.set x (L.getD x 0 + 1)) ss)[s]? = _
    rw [bump_get ss _ s (by rw [List.length_set]; exact h), List.count_cons]
    congr 1
    rw [List.getD_eq_getElem?_getD, List.getD_eq_getElem?_getD, List.getElem?_set]
    by_cases e : x = s
    · subst e; simp [h, List.getElem?_eq_getElem h]; omega
    · simp [e]
/-- the taken symbols -/
abbrev Fk (S : List Tr) (m : Nat) : List Nat := ((lvl S (m - 1)).take (2 * S.length - 2)).flatMap Tr.sy
/-- what package-merge yields for two symbols or more -/
theorem pm_two {fs : List Nat} {m : Nat} (hm : 1 ≤ m) (S : List Tr) (hS : S = isort Tr.wt (sgl fs)) (h2 : 2 ≤ S.length) (hc : S.length ≤ 2 ^ m) :
    (∀ t ∈ S, 1 ≤ (Fk S m).count (sx t) ∧ (Fk S m).count (sx t) ≤ m) ∧ (S.map fun t => 2 ^ (m - (Fk S m).count (sx t))).sum = 2 ^ m ∧ (S.map fun t => t.wt * (Fk S m).count (sx t)).sum = tw ((lvl S (m - 1)).take (2 * S.length - 2)) ∧ (∀ s, s ∉ S.map sx → (Fk S m).count s = 0) ∧
    (∀ c : Tr → Nat, (∀ t ∈ S, c t ≤ m) → (S.map fun t => 2 ^ (m - c t)).sum ≤ 2 ^ m → (S.map fun t => t.wt * (Fk S m).count (sx t)).sum ≤ (S.map fun t => t.wt * c t).sum) := by
  have hsrt : Srt Tr.wt S := by rw [hS]; exact isort_srt _ _ rfl
  have hlf : ∀ t ∈ S, Lf fs t := by rw [hS]; exact isort_lf
  have hnd : (S.map sx).Nodup := by rw [hS]; exact isort_nd fs
  have hlong := lvl_long (S := S) (m := m) (by omega) hm hc
  obtain ⟨k, rfl⟩ : ∃ k, m = k + 1 := ⟨m - 1, by omega⟩
  rw [Nat.add_sub_cancel] at hlong
  obtain ⟨a, g1, g2, g3, g4, g5, g6⟩ := lvl_str hsrt k (2 * S.length - 2) hlong
  have hcnt : ∀ s, (Fk S (k + 1)).count s = sm (k + 1) (fun d => ((S.map sx).take (a d)).count s) := fun s => by
    rw [Fk, Nat.add_sub_cancel, g4 s]
    exact sm_congr _ fun d _ => by rw [leaf_flat (fun t ht => hlf t (List.mem_of_mem_take ht)), List.map_take]
  have hp : ∀ p (h : p < S.length), (Fk S (k + 1)).count (sx S[p]) = sm (k + 1) (fun d => if p < a d then 1 else 0) := fun p h => by
    rw [hcnt]
    refine sm_congr _ fun d _ => ?_
    have := count_take hnd (p := p) (a := a d) (by rw [List.length_map]; exact h)
    rw [List.getElem_map] at this; exact this
  have hne : ∀ p, _ := fun p => nest (k + 1) a p (fun d hd => g2 d (by omega))
  have hfil : ∀ d, d < k + 1 → (S.filter fun t => decide (d < (Fk S (k + 1)).count (sx t))) = S.take (a d) := fun d hd => filter_take S (a d) fun p h => by
    rw [decide_eq_true_eq, hp p h]; exact (hne p).2 d hd
  have hle : ∀ t ∈ S, (Fk S (k + 1)).count (sx t) ≤ k + 1 := fun t ht => by
    obtain ⟨p, h, rfl⟩ := List.getElem_of_mem ht
    rw [hp p h]; exact (hne p).1
  have hkv := kv (c := fun t => (Fk S (k + 1)).count (sx t)) S hle
  have hkw := kw (c := fun t => (Fk S (k + 1)).count (sx t)) S hle
  rw [vl_congr (k + 1) (g := a) (fun d hd => by rw [hfil d hd, List.length_take]; have := g1 d (by omega); omega), g3] at hkv
  rw [sm_congr (k + 1) (g := fun d => tw (S.take (a d))) (fun d hd => by rw [hfil d hd]), ← g6] at hkw
  have e2 : (2 * S.length - 2) * 2 ^ k = (S.length - 1) * 2 ^ (k + 1) := by
    rw [show 2 * S.length - 2 = (S.length - 1) * 2 by omega, Nat.mul_assoc, Nat.mul_comm 2, ← Nat.pow_succ]
  have e3 : S.length * 2 ^ (k + 1) = (S.length - 1) * 2 ^ (k + 1) + 2 ^ (k + 1) := by
    rw [← Nat.succ_mul]; congr 1; omega
  have hsum : (S.map fun t => 2 ^ (k + 1 - (Fk S (k + 1)).count (sx t))).sum = 2 ^ (k + 1) := by omega
  have hpos : 0 < 2 ^ (k + 1) := Nat.pow_pos (by decide)
  refine ⟨fun t ht => ⟨?_, hle t ht⟩, hsum, by rw [← hkw]; rfl, fun s hs => ?_, fun c hc' hk => ?_⟩
  · rcases Nat.eq_zero_or_pos ((Fk S (k + 1)).count (sx t)) with e | e
    · exfalso
      obtain ⟨l1, l2, hl⟩ := List.append_of_mem ht
      have hx : ∀ l : List Tr, l ≠ [] → 0 < (l.map fun t => 2 ^ (k + 1 - (Fk S (k + 1)).count (sx t))).sum := fun l hl => by
        cases l with
        | nil => exact (hl rfl).elim
        | cons y l => rw [List.map_cons, List.sum_cons]; have : 0 < 2 ^ (k + 1 - (Fk S (k + 1)).count (sx y)) := Nat.pow_pos (by decide); omega
      have h3 : (S.map fun t => 2 ^ (k + 1 - (Fk S (k + 1)).count (sx t))).sum = (l1.map fun t => 2 ^ (k + 1 - (Fk S (k + 1)).count (sx t))).sum + (2 ^ (k + 1 - (Fk S (k + 1)).count (sx t)) + (l2.map fun t => 2 ^ (k + 1 - (Fk S (k + 1)).count (sx t))).sum) := by
        conv => lhs; rw [show S.map (fun t => 2 ^ (k + 1 - (Fk S (k + 1)).count (sx t))) = (l1 ++ t :: l2).map (fun t => 2 ^ (k + 1 - (Fk S (k + 1)).count (sx t))) from congrArg _ hl]
        rw [List.map_append, List.sum_append, List.map_cons, List.sum_cons]
      rw [e, Nat.sub_zero] at h3
      have hlen : S.length = l1.length + (l2.length + 1) := by rw [hl]; simp
      by_cases q : l1 = []
      · have q2 : l2 ≠ [] := fun h => by rw [q, h] at hlen; simp at hlen; omega
        have := hx l2 q2; omega
      · have := hx l1 q; omega
    · exact e
  · rw [hcnt, ← sm_zero (k + 1)]
    exact sm_congr _ fun d _ => List.count_eq_zero.2 fun h => hs (List.mem_of_mem_take h)
  · rw [hkw.symm]
    have hv := kv (c := c) S hc'
    have ho := lvl_opt hsrt k (fun d => S.filter fun t => decide (d < c t)) (fun d _ => ⟨List.length_filter_le _ _, sub_tw List.filter_sublist hsrt⟩) (2 * S.length - 2) (by rw [e2]; omega)
    rw [kw (c := c) S hc'] at ho
    exact ho
end Go.Proofs.Ytdcgmkoonanpgaa
