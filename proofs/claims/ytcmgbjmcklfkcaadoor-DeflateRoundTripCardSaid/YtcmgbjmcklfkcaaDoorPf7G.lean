/- prefix: Decode. -/
import Derived.Test.YtcmgbjmcklfkcaaDoorG14
namespace Go.Proofs.YtcmgbjmcklfkcaaDoor
set_option linter.unusedSimpArgs false
set_option linter.unusedVariables false
open Go.RowKit Sym

namespace Pf
theorem ord_pre (l : List Nat) {a b : Nat} (h : a ≤ b) : ∃ t, ord l b = ord l a ++ t := by
  induction b with
  | zero => obtain rfl : a = 0 := by omega
            exact ⟨[], by simp⟩
  | succ b ih =>
    by_cases e : a = b + 1
    · subst e; exact ⟨[], by simp⟩
    · obtain ⟨t, ht⟩ := ih (by omega)
      exact ⟨t ++ sy l (b + 1), by rw [ord, ht]; simp⟩
/-- the places of the symbols shorter than m -/
theorem place {l : List Nat} {k m : Nat} (hk : k < (od l).length) (hm : m ≤ 31) : k < nx l m ↔ l.getD (od l)[k] 0 < m := by
  obtain ⟨t, ht⟩ := ord_pre l (show m - 1 ≤ 30 by omega)
  have hmem := (od_mem.1 (List.getElem_mem hk)).2
  constructor
  · intro h
    unfold nx at h
    have e : (od l)[k]? = (ord l (m - 1))[k]? := by rw [od_eq, ht, List.getElem?_append_left h]
    rw [List.getElem?_eq_getElem hk, List.getElem?_eq_getElem h, Option.some.injEq] at e
    have := (ord_mem.1 (List.getElem_mem h)).2
    rw [← e] at this; omega
  · intro h
    have hin : (od l)[k] ∈ ord l (m - 1) := ord_mem.2 ⟨(od_mem.1 (List.getElem_mem hk)).1, hmem.1, by omega⟩
    obtain ⟨j, hj, e⟩ := List.getElem_of_mem hin
    have hj' : j < (od l).length := by rw [od_eq, ht, List.length_append]; omega
    have e2 : (od l)[j]? = (ord l (m - 1))[j]? := by rw [od_eq, ht, List.getElem?_append_left hj]
    rw [List.getElem?_eq_getElem hj', List.getElem?_eq_getElem hj, Option.some.injEq, e] at e2
    have e3 := (od_nodup l).idxOf_getElem j hj'
    have e4 := (od_nodup l).idxOf_getElem k hk
    rw [e2] at e3
    have : j = k := by omega
    unfold nx; omega
theorem place_eq {l : List Nat} {k n : Nat} (hk : k < (od l).length) (hn : n ≤ 30) (h : nx l n ≤ k) : k < nx l (n + 1) ↔ l.getD ((od l).getD k 0) 0 = n := by
  have h1 := place hk (show n ≤ 31 by omega)
  have h2 := place hk (show n + 1 ≤ 31 by omega)
  rw [getD_eq hk]; omega
theorem code_asc {l : List Nat} {j k : Nat} (hk : k < (od l).length) (hj : j < k) (h : l.getD ((od l).getD j 0) 0 = l.getD ((od l).getD k 0) 0) : code l ((od l).getD j 0) < code l ((od l).getD k 0) := by
  have hj' : j < (od l).length := by omega
  rw [getD_eq hk, getD_eq hj'] at *
  exact front_gt (List.getElem_mem hk) (List.getElem_mem hj') h.symm (List.pairwise_iff_getElem.1 (od_sorted l) j k hj' hk hj)
/-- the symbol of n bits that make v -/
noncomputable def fnd (l : List Nat) (v n : Nat) : Option Nat := (List.range l.length).find? fun i => decide (0 < n ∧ l.getD i 0 = n ∧ code l i = v)
theorem fnd_none {l : List Nat} {v n : Nat} : fnd l v n = none ↔ ∀ i, i < l.length → ¬ (0 < n ∧ l.getD i 0 = n ∧ code l i = v) := by
  unfold fnd; simp only [List.find?_eq_none, List.mem_range, decide_eq_true_eq]
theorem fnd_some {l : List Nat} {v n i : Nat} (hb : ∀ n ∈ l, n ≤ 30) (hi : i < l.length) (h0 : 0 < n) (h1 : l.getD i 0 = n) (h2 : code l i = v) : fnd l v n = some i := by
  cases h : fnd l v n with
  | none => exact (fnd_none.1 h i hi ⟨h0, h1, h2⟩).elim
  | some j =>
    have hp := List.find?_some h
    have hm := List.mem_of_find?_eq_some h
    rw [List.mem_range] at hm
    rw [decide_eq_true_eq] at hp
    have hbd : ∀ {q}, q < l.length → l.getD q 0 = n → q ∈ od l := fun {q} hq e => od_mem.2 ⟨hq, by omega, by have := hb l[q] (List.getElem_mem hq); rw [getD_eq hq]; exact this⟩
    have ii := hbd hi h1
    have ij := hbd hm hp.2.1
    by_cases e : j = i
    · rw [e]
    · rcases bf_total (l := l) e with hb1 | hb1
      · have := front_gt ii ij (by omega) hb1; omega
      · have := front_gt ij ii (by omega) hb1; omega
/-- the program's search -/
theorem scan_none {l : List Nat} {n k v : Nat} (hn : n ≤ 30) (h1 : nx l n ≤ k) (h2 : ∀ q, nx l n ≤ q → q < k → code l ((od l).getD q 0) < v) (hx : ¬ (k < (od l).length ∧ l.getD ((od l).getD k 0) 0 = n ∧ code l ((od l).getD k 0) ≤ v)) : fnd l v n = none := by
  refine fnd_none.2 fun i hi ⟨g0, g1, g2⟩ => ?_
  have hio : i ∈ od l := od_mem.2 ⟨hi, by omega, by omega⟩
  have hq := idx_lt hio
  have he := idx_get hio
  obtain ⟨q, hqe⟩ : ∃ q, q = (od l).idxOf i := ⟨_, rfl⟩
  have hq' : q < (od l).length := by omega
  have hgq : (od l).getD q 0 = i := by subst hqe; rw [getD_eq hq]; exact he
  have p1 := place hq' (show n ≤ 31 by omega)
  have p2 := place hq' (show n + 1 ≤ 31 by omega)
  rw [← getD_eq hq', hgq] at p1 p2
  by_cases c : q < k
  · have := h2 q (by omega) c; rw [hgq] at this; omega
  · have hk' : k < (od l).length := by omega
    have hk2 : l.getD ((od l).getD k 0) 0 = n := (place_eq hk' hn h1).1 (by omega)
    have hc : v < code l ((od l).getD k 0) := by
      by_cases c2 : code l ((od l).getD k 0) ≤ v
      · exact (hx ⟨hk', hk2, c2⟩).elim
      · omega
    by_cases c3 : q = k
    · rw [← c3, hgq] at hc; omega
    · have := code_asc (l := l) hq' (show k < q by omega) (by rw [hk2, hgq]; exact g1.symm)
      rw [hgq] at this; omega
theorem beg_lt {l : List Nat} {v n : Nat} (h : Beg l v n) (hf : fnd l v n = none) (hn : n ≤ 30) : n < 30 := by
  obtain ⟨i, hi, h1, h2⟩ := h
  have hm := od_mem.1 hi
  by_cases e : n = 30
  · subst e
    have e2 : l.getD i 0 = 30 := by omega
    rw [e2, Nat.sub_self, Nat.pow_zero, Nat.div_one] at h2
    exact (fnd_none.1 hf i hm.1 ⟨by omega, e2, h2⟩).elim
  · omega
theorem beg_ex {l : List Nat} {v n : Nat} (hb : ∀ n ∈ l, n ≤ 30) : Beg l v n ↔ ∃ i, i < l.length ∧ 0 < l.getD i 0 ∧ n ≤ l.getD i 0 ∧ code l i / 2 ^ (l.getD i 0 - n) = v := by
  constructor
  · rintro ⟨i, hi, h1, h2⟩; exact ⟨i, (od_mem.1 hi).1, (od_mem.1 hi).2.1, h1, h2⟩
  · rintro ⟨i, hi, h0, h1, h2⟩
    exact ⟨i, od_mem.2 ⟨hi, h0, by have := hb l[i] (List.getElem_mem hi); rw [getD_eq hi]; exact this⟩, h1, h2⟩
end Pf
theorem non_of {l : List Nat} {b : List Bool} {a n : Nat} (ha : a + n ≤ b.length) (h : ∀ j, j ≤ n → Pf.fnd l (tkv b a j) j = none) : Pf.Non l (tkv b a n) n := fun i hi hle e => by
  rw [tkv_div hle ha] at e
  have hm := Pf.od_mem.1 hi
  exact Pf.fnd_none.1 (h _ hle) i hm.1 ⟨hm.2.1, rfl, e.symm⟩
/-- what Decode answers, from n bits on -/
noncomputable def begB (l : List Nat) (v n : Nat) : Bool := @decide (Pf.Beg l v n) (Classical.propDecidable _)
theorem begB_t {l : List Nat} {v n : Nat} : begB l v n = true ↔ Pf.Beg l v n := @decide_eq_true_iff (Pf.Beg l v n) (Classical.propDecidable _)
theorem begB_f {l : List Nat} {v n : Nat} : begB l v n = false ↔ ¬ Pf.Beg l v n := @decide_eq_false_iff_not (Pf.Beg l v n) (Classical.propDecidable _)
noncomputable def dgo (l : List Nat) (b : List Bool) (a : Nat) : Nat → Nat → Nat × Nat × Int
  | 0, _ => (0, 0, 0)
  | f + 1, n => match Pf.fnd l (tkv b a n) n with
    | some i => (i, n, 0)
    | none => if begB l (tkv b a n) n = true then (if b.length ≤ a + n then (0, 0, 10) else dgo l b a f (n + 1)) else (0, 0, 18)
theorem dgo_found {l : List Nat} {b : List Bool} {a f n i : Nat} (h : Pf.fnd l (tkv b a n) n = some i) : dgo l b a (f + 1) n = (i, n, 0) := by rw [dgo, h]
theorem dgo_bad {l : List Nat} {b : List Bool} {a f n : Nat} (h : Pf.fnd l (tkv b a n) n = none) (h2 : begB l (tkv b a n) n = false) : dgo l b a (f + 1) n = (0, 0, 18) := by rw [dgo, h]; simp [h2]
theorem dgo_end {l : List Nat} {b : List Bool} {a f n : Nat} (h : Pf.fnd l (tkv b a n) n = none) (h2 : begB l (tkv b a n) n = true) (h3 : b.length ≤ a + n) : dgo l b a (f + 1) n = (0, 0, 10) := by rw [dgo, h]; simp [h2, h3]
theorem dgo_on {l : List Nat} {b : List Bool} {a f n : Nat} (h : Pf.fnd l (tkv b a n) n = none) (h2 : begB l (tkv b a n) n = true) (h3 : ¬ b.length ≤ a + n) : dgo l b a (f + 1) n = dgo l b a f (n + 1) := by rw [dgo, h]; simp [h2, h3]
theorem dgo_fuel {l : List Nat} {b : List Bool} {a n : Nat} (h : n ≤ 30) : ∃ f, 31 - n = f + 1 ∧ 31 - (n + 1) = f := ⟨30 - n, by omega, by omega⟩
noncomputable def dev (zs : List Int) (b : List Bool) (at_ : Int) : Nat × Nat × Int := if ckv zs = 0 then (if at_ < 0 ∨ (b.length : Int) < at_ then (0, 0, 3) else dgo (toN zs) b at_.toNat 31 0) else (0, 0, ckv zs)
theorem dev_bad {zs : List Int} {b : List Bool} {at_ : Int} (h : ¬ ckv zs = 0) : dev zs b at_ = (0, 0, ckv zs) := by rw [dev, if_neg h]
theorem dev_rng {zs : List Int} {b : List Bool} {at_ : Int} (h : ckv zs = 0) (h2 : at_ < 0 ∨ (b.length : Int) < at_) : dev zs b at_ = (0, 0, 3) := by rw [dev, if_pos h, if_pos h2]
theorem dev_go {zs : List Int} {b : List Bool} {at_ : Int} (h : ckv zs = 0) (h2 : ¬ (at_ < 0 ∨ (b.length : Int) < at_)) : dev zs b at_ = dgo (toN zs) b at_.toNat 31 0 := by rw [dev, if_pos h, if_neg h2]
theorem nz_drop {l : List Nat} {k : Nat} (h : 0 < (nz (l.drop k)).length) : (nz (l.drop k))[0] = ((l.getD k 0 : Nat) : Int) := by
  have hk : k < l.length := by rw [nz_len, List.length_drop] at h; omega
  simp only [nz, List.getElem_map, List.getElem_drop, Nat.add_zero]
  rw [Pf.getD_eq hk]
theorem rest_part {w : World} {v : Value} {l : List Nat} {k : Nat} (h : RdL i64 w v (nz (l.drop k))) (hk : k < l.length) : RdL i64 w (partV v 1 (nz (l.drop k)).length) (nz (l.drop (k + 1))) := by
  have h1 := h.partV (a := 1) (b := (nz (l.drop k)).length) (by rw [nz_len, List.length_drop]; omega) (Nat.le_refl _)
  have e : cutL 1 (nz (l.drop k)).length (nz (l.drop k)) = nz (l.drop (k + 1)) := by
    unfold cutL nz
    rw [List.take_of_length_le (by simp; omega), ← List.map_drop, List.drop_drop]
  rw [e] at h1; exact h1
end Go.Proofs.YtcmgbjmcklfkcaaDoor
