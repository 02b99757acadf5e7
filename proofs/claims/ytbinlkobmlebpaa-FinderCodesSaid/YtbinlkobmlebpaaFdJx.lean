/- finder, plain: the marks of three finders. -/
import Derived.Test.YtbinlkobmlebpaaFdGx
import Derived.Test.YtbinlkobmlebpaaFdIx
set_option linter.unusedSimpArgs false
set_option linter.unusedVariables false
namespace Go.Proofs.Ytbinlkobmlebpaa
open Go.RowKit Sym
namespace Fi
def sam (a b : Mk) : Prop := a.x = b.x ∧ a.y = b.y ∧ a.s = b.s
theorem sam_near {a b : Mk} (h : sam a b) {x y : Int} : nearM a x y ↔ nearM b x y := by unfold nearM; rw [h.1, h.2.1, h.2.2]
theorem addM_from {l : List Mk} {q : Mk} : ∀ m ∈ addM l q, (∃ m' ∈ l, sam m m') ∨ m = q := fun m hm => by
  have hle := fdx_le q.x q.y l
  by_cases e : fdx q.x q.y l < l.length
  · rw [addM_t e rfl] at hm
    rcases List.mem_or_eq_of_mem_set hm with hm | rfl
    · exact .inl ⟨m, hm, rfl, rfl, rfl⟩
    · exact .inl ⟨_, List.getElem_mem e, rfl, rfl, rfl⟩
  · rw [addM_f (by omega)] at hm
    rcases List.mem_append.1 hm with hm | hm
    · exact .inl ⟨m, hm, rfl, rfl, rfl⟩
    · rw [List.mem_singleton] at hm; exact .inr hm
theorem addM_keep {l : List Mk} {q m : Mk} (hm : m ∈ l) : ∃ m' ∈ addM l q, sam m' m := by
  have hle := fdx_le q.x q.y l
  by_cases e : fdx q.x q.y l < l.length
  · rw [addM_t e rfl]
    obtain ⟨j, hj, rfl⟩ := List.getElem_of_mem hm
    by_cases z : fdx q.x q.y l = j
    · refine ⟨_, List.mem_set e _, ?_⟩
      subst z; exact ⟨rfl, rfl, rfl⟩
    · refine ⟨l[j], ?_, rfl, rfl, rfl⟩
      exact List.mem_of_getElem? (i := j) (by rw [List.getElem?_set_ne z, List.getElem?_eq_getElem hj])
  · rw [addM_f (by omega)]
    exact ⟨m, List.mem_append_left _ hm, rfl, rfl, rfl⟩
theorem fdx_near {x y : Int} : ∀ {l : List Mk} (h : fdx x y l < l.length), nearM l[fdx x y l] x y
  | m :: l, h => by
    by_cases e : nearM m x y
    · have : fdx x y (m :: l) = 0 := by unfold fdx; rw [if_pos e]
      simp only [this]; exact e
    · have h1 : fdx x y (m :: l) = fdx x y l + 1 := by rw [fdx, if_neg e]
      have h2 : fdx x y l < l.length := by rw [h1] at h; simpa using h
      simp only [h1]; exact fdx_near h2
theorem addM_new {l : List Mk} {q : Mk} : ∃ m ∈ addM l q, sam m q ∨ (∃ m' ∈ l, nearM m' q.x q.y ∧ sam m m') := by
  have hle := fdx_le q.x q.y l
  by_cases e : fdx q.x q.y l < l.length
  · rw [addM_t e rfl]
    exact ⟨_, List.mem_set e _, .inr ⟨_, List.getElem_mem e, fdx_near e, rfl, rfl, rfl⟩⟩
  · rw [addM_f (by omega)]
    exact ⟨q, by simp, .inl ⟨rfl, rfl, rfl⟩⟩
theorem addAll_from : ∀ (ss l : List Mk), ∀ m ∈ addAll l ss, ∃ m', (m' ∈ l ∨ m' ∈ ss) ∧ sam m m'
  | [], l, m, h => ⟨m, .inl h, rfl, rfl, rfl⟩
  | q :: ss, l, m, h => by
    obtain ⟨m1, h1, h2⟩ := addAll_from ss (addM l q) m h
    rcases h1 with h1 | h1
    · rcases addM_from m1 h1 with ⟨m2, h3, h4⟩ | rfl
      · exact ⟨m2, .inl h3, h2.1.trans h4.1, h2.2.1.trans h4.2.1, h2.2.2.trans h4.2.2⟩
      · exact ⟨m1, .inr (by simp), h2⟩
    · exact ⟨m1, .inr (by simp [h1]), h2⟩
theorem addAll_has {F : Mk} : ∀ (ss l : List Mk), (∀ m ∈ l, nearM m F.x F.y → sam m F) → (∀ m ∈ ss, nearM m F.x F.y → sam m F) → ((∃ m ∈ l, sam m F) ∨ ∃ m ∈ ss, sam m F) → ∃ m ∈ addAll l ss, sam m F
  | [], l, _, _, h => by
    rcases h with ⟨m, h1, h2⟩ | ⟨m, h1, _⟩
    · exact ⟨m, h1, h2⟩
    · cases h1
  | q :: ss, l, hl, hs, h => by
    refine addAll_has ss (addM l q) (fun m hm hn => ?_) (fun m hm => hs m (by simp [hm])) ?_
    · rcases addM_from m hm with ⟨m2, h3, h4⟩ | rfl
      · have := hl m2 h3 ((sam_near h4).1 hn)
        exact ⟨h4.1.trans this.1, h4.2.1.trans this.2.1, h4.2.2.trans this.2.2⟩
      · exact hs m (by simp) hn
    · rcases h with ⟨m, h1, h2⟩ | ⟨m, h1, h2⟩
      · obtain ⟨m', a, b⟩ := addM_keep (q := q) h1
        exact .inl ⟨m', a, b.1.trans h2.1, b.2.1.trans h2.2.1, b.2.2.trans h2.2.2⟩
      · rcases List.mem_cons.1 h1 with rfl | h1
        · obtain ⟨m', a, b⟩ := addM_new (l := l) (q := m)
          rcases b with b | ⟨m2, b1, b2, b3⟩
          · exact .inl ⟨m', a, b.1.trans h2.1, b.2.1.trans h2.2.1, b.2.2.trans h2.2.2⟩
          · rw [h2.1, h2.2.1] at b2
            have := hl m2 b1 b2
            exact .inl ⟨m', a, b3.1.trans this.1, b3.2.1.trans this.2.1, b3.2.2.trans this.2.2⟩
        · exact .inr ⟨m, h1, h2⟩
theorem mem_allC {W H : Nat} {dk : List Bool} {sh : List Int} {kd : Bool} {o : Option Mk} : o ∈ allC W H dk sh kd H 0 ↔ ∃ y, y < H ∧ ∃ run, run < runs W dk y ∧ vis W H dk sh kd y run = some o := by
 unfold allC rowC
 simp only [List.range_zero, List.filterMap_nil, List.append_nil, List.mem_flatMap, List.mem_range, List.mem_filterMap]
theorem mem_sgl {cs : List (Option Mk)} {m : Mk} : m ∈ sgl cs ↔ some m ∈ cs := by
 unfold sgl; simp [List.mem_filterMap]
theorem FP.mark {dk : List Bool} {W fx fy s : Nat} {xl yl : Bool} (h : FP dk W fx fy s xl yl) (hm : (mrk W W dk (shq true) true).length ≤ 256) : ∃ m ∈ mrk W W dk (shq true) true, m.x = 14 * fx + 49 * s ∧ m.y = 14 * fy + 49 * s ∧ m.s = 14 * s := by
 have hf := fold_full (allC W W dk (shq true) true W 0) [] (by decide)
 have hu : mrk W W dk (shq true) true = fold [] (allC W W dk (shq true) true W 0) := rfl
 have hle : (addAll [] (sgl (allC W W dk (shq true) true W 0))).length ≤ 256 := Decidable.byContradiction fun q => by have := hf.2 (by omega); rw [← hu] at this; omega
 rw [hu, hf.1 hle]
 obtain ⟨run, r1, r2⟩ := h.seen
 exact addAll_has (F := ⟨14 * fx + 49 * s, 14 * fy + 49 * s, 14 * s, 1⟩) _ _ (fun m hm => by cases hm) (fun m hm hn => by
  obtain ⟨y, hy, run, _, hv⟩ := mem_allC.1 (mem_sgl.1 hm)
  exact h.own hy hv hn) (.inr ⟨_, mem_sgl.2 (mem_allC.2 ⟨fy + 3 * s, by have := h.iny; have := h.hs; omega, run, r1, r2⟩), rfl, rfl, rfl⟩)
theorem mrk_ok {dk : List Bool} {W : Nat} (hW : W ≤ 4096) (hm : (mrk W W dk (shq true) true).length ≤ 256) : ∀ m ∈ mrk W W dk (shq true) true, mok m := fun m hmm => by
 have hf := fold_full (allC W W dk (shq true) true W 0) [] (by decide)
 have hu : mrk W W dk (shq true) true = fold [] (allC W W dk (shq true) true W 0) := rfl
 have hle : (addAll [] (sgl (allC W W dk (shq true) true W 0))).length ≤ 256 := Decidable.byContradiction fun q => by have := hf.2 (by omega); rw [← hu] at this; omega
 rw [hu, hf.1 hle] at hmm
 obtain ⟨m', h1, h2⟩ := addAll_from _ _ m hmm
 rcases h1 with h1 | h1
 · cases h1
 obtain ⟨y, hy, run, _, hv⟩ := mem_allC.1 (mem_sgl.1 h1)
 obtain ⟨⟨a, T⟩, hq, hj⟩ := vis_inv hv
 obtain ⟨⟨b, S⟩, hq2, hz, rfl⟩ := jud_inv hj
 have t1 := patv_T hq (by decide)
 have t2 := patv_T hq2 (by decide)
 unfold mok
 obtain ⟨h3, h4, h5⟩ := h2
 simp only at t1 t2 h3 h4 h5
 omega
end Fi
end Go.Proofs.Ytbinlkobmlebpaa
