/- Prefix codes, as plain mathematics: the order of the symbols, the canonical codes. -/
namespace Go.Proofs.Ytdcgmkoonanpgaa.Pf
set_option linter.unusedSimpArgs false
set_option linter.unusedVariables false

/-- a length's part of the Kraft sum, in units of 2^-30 -/
def un (n : Nat) : Nat := if n = 0 then 0 else 2 ^ (30 - n)
def kr (l : List Nat) : Nat := (l.map un).sum
theorem kr_app (a b : List Nat) : kr (a ++ b) = kr a + kr b := by simp [kr]
theorem un_pos {n : Nat} (h : n ≠ 0) : 0 < un n := by rw [un, if_neg h]; exact Nat.pow_pos (by decide)
theorem un_le (n : Nat) : un n ≤ 2 ^ 29 := by
  unfold un
  split
  · exact Nat.zero_le _
  · exact Nat.pow_le_pow_right (by decide) (by omega)
theorem kr_le (l : List Nat) : kr l ≤ 2 ^ 29 * l.length := by
  induction l with
  | nil => simp [kr]
  | cons a l ih =>
    have := un_le a
    simp only [kr, List.map_cons, List.sum_cons, List.length_cons] at *; omega
/-- the symbols of length n, in order -/
def sy (l : List Nat) (n : Nat) : List Nat := (List.range l.length).filter fun i => decide (l.getD i 0 = n)
/-- the symbols of length 1 to n, by length -/
def ord (l : List Nat) : Nat → List Nat
  | 0 => []
  | n + 1 => ord l n ++ sy l (n + 1)
theorem sy_mem {l : List Nat} {n i : Nat} : i ∈ sy l n ↔ i < l.length ∧ l.getD i 0 = n := by
  unfold sy; rw [List.mem_filter, List.mem_range, decide_eq_true_eq]
theorem ord_mem {l : List Nat} {n i : Nat} : i ∈ ord l n ↔ i < l.length ∧ 1 ≤ l.getD i 0 ∧ l.getD i 0 ≤ n := by
  induction n with
  | zero => simp [ord]; omega
  | succ n ih => rw [ord, List.mem_append, ih, sy_mem]; omega
theorem sy_nodup (l : List Nat) (n : Nat) : (sy l n).Nodup := List.nodup_range.sublist List.filter_sublist
theorem ord_nodup (l : List Nat) (n : Nat) : (ord l n).Nodup := by
  induction n with
  | zero => simp [ord]
  | succ n ih =>
    rw [ord]
    refine List.nodup_append.2 ⟨ih, sy_nodup l _, fun a ha b hb e => ?_⟩
    have h1 := (ord_mem.1 ha).2.2
    have h2 := (sy_mem.1 hb).2
    rw [← e] at h2; omega
/-- by length, and by symbol -/
def Bf (l : List Nat) (i j : Nat) : Prop := l.getD i 0 < l.getD j 0 ∨ (l.getD i 0 = l.getD j 0 ∧ i < j)
theorem ord_sorted (l : List Nat) (n : Nat) : (ord l n).Pairwise (Bf l) := by
  induction n with
  | zero => simp [ord]
  | succ n ih =>
    rw [ord]
    refine List.pairwise_append.2 ⟨ih, ?_, fun a ha b hb => ?_⟩
    · have : (sy l (n + 1)).Pairwise (· < ·) := List.Pairwise.sublist List.filter_sublist (List.pairwise_lt_range)
      refine List.Pairwise.imp_of_mem (fun {a b} ha hb h => ?_) this
      have h1 := (sy_mem.1 ha).2; have h2 := (sy_mem.1 hb).2
      exact .inr ⟨by omega, h⟩
    · have h1 := (ord_mem.1 ha).2.2; have h2 := (sy_mem.1 hb).2
      exact .inl (by omega)
theorem pairwise_uniq {R : Nat → Nat → Prop} (has : ∀ a b, R a b → ¬ R b a) : ∀ {a b : List Nat}, a.Pairwise R → b.Pairwise R → (∀ x, x ∈ a ↔ x ∈ b) → a = b
  | [], [], _, _, _ => rfl
  | [], y :: b, _, _, h => by have := (h y).2 (by simp); simp at this
  | x :: a, [], _, _, h => by have := (h x).1 (by simp); simp at this
  | x :: a, y :: b, ha, hb, h => by
    rw [List.pairwise_cons] at ha hb
    have hxy : x = y := by
      rcases List.mem_cons.1 ((h x).1 (by simp)) with e | h1
      · exact e
      · rcases List.mem_cons.1 ((h y).2 (by simp)) with e | h2
        · exact e.symm
        · exact (has _ _ (hb.1 x h1) (ha.1 y h2)).elim
    subst hxy
    have irr : ¬ R x x := fun hr => has _ _ hr hr
    congr 1
    refine pairwise_uniq has ha.2 hb.2 fun z => ?_
    have hz := h z
    simp only [List.mem_cons] at hz
    constructor
    · intro h1
      rcases hz.1 (.inr h1) with rfl | h2
      · exact (irr (ha.1 _ h1)).elim
      · exact h2
    · intro h1
      rcases hz.2 (.inr h1) with rfl | h2
      · exact (irr (hb.1 _ h1)).elim
      · exact h2
theorem bf_anti (l : List Nat) (a b : Nat) (h : Bf l a b) : ¬ Bf l b a := by unfold Bf at *; omega
/-- what is laid in order is the order -/
theorem ord_uniq {l : List Nat} {n : Nat} {os : List Nat} (h1 : os.Pairwise (Bf l)) (h2 : ∀ i, i ∈ os ↔ i < l.length ∧ 1 ≤ l.getD i 0 ∧ l.getD i 0 ≤ n) : os = ord l n :=
  pairwise_uniq (bf_anti l) h1 (ord_sorted l n) fun x => (h2 x).trans ord_mem.symm
/-- the lengths of symbols -/
def lens (l os : List Nat) : List Nat := os.map fun i => l.getD i 0
/-- the sum ahead of the k-th symbol -/
def Kp (l os : List Nat) (k : Nat) : Nat := kr (lens l (os.take k))
theorem Kp_succ {l os : List Nat} {k : Nat} (h : k < os.length) : Kp l os (k + 1) = Kp l os k + un (l.getD os[k] 0) := by
  unfold Kp lens
  rw [← List.take_append_getElem h, List.map_append, kr_app]; simp [kr]
theorem Kp_mono {l os : List Nat} {a b : Nat} (h : a ≤ b) (hb : b ≤ os.length) : Kp l os a ≤ Kp l os b := by
  induction b with
  | zero => obtain rfl : a = 0 := by omega
            exact Nat.le_refl _
  | succ b ih =>
    by_cases e : a = b + 1
    · subst e; exact Nat.le_refl _
    · have := ih (by omega) (by omega); rw [Kp_succ (by omega)]; omega
/-- the whole sum -/
theorem kr_ord {l : List Nat} (h : ∀ n ∈ l, n ≤ 30) : kr (lens l (ord l 30)) = kr l := by
  have key : ∀ n, kr (lens l (ord l n)) = ((List.range l.length).map fun i => if 1 ≤ l.getD i 0 ∧ l.getD i 0 ≤ n then un (l.getD i 0) else 0).sum := by
    intro n
    induction n with
    | zero =>
      have : ∀ m : Nat, ((List.range m).map fun i => if 1 ≤ l.getD i 0 ∧ l.getD i 0 ≤ 0 then un (l.getD i 0) else 0).sum = 0 := by
        intro m
        induction m with
        | zero => rfl
        | succ m ih => rw [List.range_succ, List.map_append, List.sum_append, ih, List.map_singleton, List.sum_singleton, if_neg (by omega)]
      rw [this]; rfl
    | succ n ih =>
      rw [ord, lens, List.map_append, kr_app]
      have ih : kr ((ord l n).map fun i => l.getD i 0) = _ := ih
      rw [ih]
      have : ∀ m : Nat, ((List.range m).map fun i => if 1 ≤ l.getD i 0 ∧ l.getD i 0 ≤ n then un (l.getD i 0) else 0).sum + kr ((((List.range m).filter fun i => decide (l.getD i 0 = n + 1))).map fun i => l.getD i 0) = ((List.range m).map fun i => if 1 ≤ l.getD i 0 ∧ l.getD i 0 ≤ n + 1 then un (l.getD i 0) else 0).sum := by
        intro m
        induction m with
        | zero => rfl
        | succ m ih =>
          rw [List.range_succ, List.map_append, List.sum_append, List.filter_append, List.map_append, kr_app, List.map_append, List.sum_append, ← ih, List.map_singleton, List.sum_singleton, List.map_singleton, List.sum_singleton]
          by_cases e : l.getD m 0 = n + 1
          · have hf : [m].filter (fun i => decide (l.getD i 0 = n + 1)) = [m] := by simp only [List.filter, decide_eq_true e]
            rw [hf, List.map_singleton]
            rw [if_neg (by omega), if_pos (by omega)]
            simp [kr]; omega
          · have hf : [m].filter (fun i => decide (l.getD i 0 = n + 1)) = [] := by simp only [List.filter, decide_eq_false e]
            rw [hf, List.map_nil]
            by_cases h1 : 1 ≤ l.getD m 0 ∧ l.getD m 0 ≤ n
            · rw [if_pos h1, if_pos (by omega)]; simp [kr]; omega
            · rw [if_neg h1, if_neg (by omega)]; simp [kr]
      exact this _
  rw [key]
  have : ∀ (m : Nat), m ≤ l.length → ((List.range m).map fun i => if 1 ≤ l.getD i 0 ∧ l.getD i 0 ≤ 30 then un (l.getD i 0) else 0).sum = kr (l.take m) := by
    intro m
    induction m with
    | zero => intro _; rfl
    | succ m ih =>
      intro hm
      have hg : l.getD m 0 = l[m] := by rw [List.getD_eq_getElem?_getD, List.getElem?_eq_getElem (by omega)]; rfl
      have h30 := h l[m] (List.getElem_mem _)
      rw [List.range_succ, List.map_append, List.sum_append, ih (by omega), ← List.take_append_getElem (show m < l.length by omega), kr_app, List.map_singleton, List.sum_singleton, hg]
      by_cases h1 : 1 ≤ l[m]
      · rw [if_pos ⟨h1, h30⟩]; simp [kr]
      · rw [if_neg (by omega)]
        have : l[m] = 0 := by omega
        simp [kr, un, this]
  have := this l.length (Nat.le_refl _)
  rw [List.take_length] at this; exact this
/-- the symbols that have a code, in their order -/
theorem od_ex : ∃ f : List Nat → List Nat, ∀ l, f l = ord l 30 := ⟨_, fun _ => rfl⟩
noncomputable def od : List Nat → List Nat := Classical.choose od_ex
theorem od_eq (l : List Nat) : od l = ord l 30 := Classical.choose_spec od_ex l
theorem od_mem {l : List Nat} {i : Nat} : i ∈ od l ↔ i < l.length ∧ 1 ≤ l.getD i 0 ∧ l.getD i 0 ≤ 30 := by rw [od_eq]; exact ord_mem
theorem od_nodup (l : List Nat) : (od l).Nodup := by rw [od_eq]; exact ord_nodup l 30
theorem od_sorted (l : List Nat) : (od l).Pairwise (Bf l) := by rw [od_eq]; exact ord_sorted l 30
theorem od_uniq {l os : List Nat} (h1 : os.Pairwise (Bf l)) (h2 : ∀ i, i ∈ os ↔ i < l.length ∧ 1 ≤ l.getD i 0 ∧ l.getD i 0 ≤ 30) : os = od l := by rw [od_eq]; exact ord_uniq h1 h2
/-- the code of a symbol -/
noncomputable def code (l : List Nat) (i : Nat) : Nat := if l.getD i 0 = 0 then 0 else Kp l (od l) ((od l).idxOf i) / 2 ^ (30 - l.getD i 0)
/-- the sum ahead of a symbol is a multiple of its part -/
theorem Kp_dvd {l os : List Nat} (hs : os.Pairwise (Bf l)) (hm : ∀ i ∈ os, 1 ≤ l.getD i 0 ∧ l.getD i 0 ≤ 30) : ∀ {k n : Nat}, k ≤ os.length → (∀ i ∈ os.take k, l.getD i 0 ≤ n) → n ≤ 30 → 2 ^ (30 - n) ∣ Kp l os k := by
  intro k
  induction k with
  | zero => intro n _ _ _; exact ⟨0, by simp [Kp, lens, kr]⟩
  | succ k ih =>
    intro n hk hle hn
    have hk' : k < os.length := by omega
    rw [Kp_succ hk']
    have hin : os[k] ∈ os.take (k + 1) := by rw [← List.take_append_getElem hk']; exact List.mem_append.2 (.inr (by simp))
    have h1 := hle _ hin
    have h2 := (hm _ (List.getElem_mem hk')).1
    refine Nat.dvd_add (ih (by omega) (fun i hi => hle i (List.take_subset_take_left _ (by omega) hi)) hn) ?_
    rw [un, if_neg (by omega)]
    exact Nat.pow_dvd_pow 2 (by omega)
theorem ahead_le {l os : List Nat} (hs : os.Pairwise (Bf l)) {k : Nat} (hk : k < os.length) : ∀ i ∈ os.take k, l.getD i 0 ≤ l.getD os[k] 0 := fun i hi => by
  obtain ⟨a, ha, rfl⟩ := List.getElem_of_mem hi
  rw [List.length_take] at ha
  rw [List.getElem_take]
  have := List.pairwise_iff_getElem.1 hs a k (by omega) hk (by omega)
  unfold Bf at this; omega
/-- what a code is, exactly -/
theorem code_at {l : List Nat} {k : Nat} (hk : k < (od l).length) : code l (od l)[k] * 2 ^ (30 - l.getD (od l)[k] 0) = Kp l (od l) k ∧ code l (od l)[k] = Kp l (od l) k / 2 ^ (30 - l.getD (od l)[k] 0) := by
  have hm := od_mem.1 (List.getElem_mem hk)
  have hidx : (od l).idxOf (od l)[k] = k := (od_nodup l).idxOf_getElem k hk
  have hd := Kp_dvd (od_sorted l) (fun i hi => (od_mem.1 hi).2) (k := k) (n := l.getD (od l)[k] 0) (by omega) (ahead_le (od_sorted l) hk) hm.2.2
  have e : code l (od l)[k] = Kp l (od l) k / 2 ^ (30 - l.getD (od l)[k] 0) := by unfold code; rw [if_neg (by omega), hidx]
  exact ⟨by rw [e]; exact Nat.div_mul_cancel hd, e⟩
/-! the codes of a code: l is right, its sum at most one -/
section
variable {l : List Nat}
theorem Kp_total (h : ∀ n ∈ l, n ≤ 30) : Kp l (od l) (od l).length = kr l := by
  unfold Kp; rw [List.take_length, od_eq]; exact kr_ord h
theorem idx_lt {i : Nat} (hi : i ∈ od l) : (od l).idxOf i < (od l).length := List.idxOf_lt_length_of_mem hi
theorem idx_get {i : Nat} (hi : i ∈ od l) : (od l)[(od l).idxOf i]'(idx_lt hi) = i := List.getElem_idxOf (idx_lt hi)
/-- where a symbol's part begins -/
noncomputable def Kb (l : List Nat) (i : Nat) : Nat := Kp l (od l) ((od l).idxOf i)
theorem code_mul {i : Nat} (hi : i ∈ od l) : code l i * 2 ^ (30 - l.getD i 0) = Kb l i := by
  have := (code_at (idx_lt hi)).1
  rw [idx_get hi] at this; exact this
theorem Kb_end (h : ∀ n ∈ l, n ≤ 30) {i : Nat} (hi : i ∈ od l) : Kb l i + 2 ^ (30 - l.getD i 0) ≤ kr l := by
  have h1 := Kp_mono (l := l) (os := od l) (show (od l).idxOf i + 1 ≤ (od l).length from idx_lt hi) (Nat.le_refl _)
  have hm := (od_mem.1 hi).2
  rw [Kp_succ (idx_lt hi), idx_get hi, Kp_total h, un, if_neg (by omega)] at h1; exact h1
theorem Kb_next {i j : Nat} (hi : i ∈ od l) (hj : j ∈ od l) (h : Bf l i j) : Kb l i + 2 ^ (30 - l.getD i 0) ≤ Kb l j := by
  have hlt : (od l).idxOf i < (od l).idxOf j := by
    rcases Nat.lt_trichotomy ((od l).idxOf i) ((od l).idxOf j) with h1 | h1 | h1
    · exact h1
    · have e1 := idx_get hi; have e2 := idx_get hj
      have : i = j := by rw [← e1, ← e2]; congr 1
      subst this; exact (bf_anti l i i h h).elim
    · have := List.pairwise_iff_getElem.1 (od_sorted l) _ _ (idx_lt hj) (idx_lt hi) h1
      rw [idx_get hi, idx_get hj] at this
      exact (bf_anti l _ _ this h).elim
  have h1 := Kp_mono (l := l) (os := od l) (show (od l).idxOf i + 1 ≤ (od l).idxOf j from hlt) (Nat.le_of_lt (idx_lt hj))
  have hm := (od_mem.1 hi).2
  rw [Kp_succ (idx_lt hi), idx_get hi, un, if_neg (by omega)] at h1; exact h1
theorem bf_total {i j : Nat} (h : i ≠ j) : Bf l i j ∨ Bf l j i := by unfold Bf; omega
/-- each place below the sum lies in one symbol's part -/
theorem Kb_find (h : ∀ n ∈ l, n ≤ 30) {x : Nat} (hx : x < kr l) : ∃ i ∈ od l, Kb l i ≤ x ∧ x < Kb l i + 2 ^ (30 - l.getD i 0) := by
  have key : ∀ k, k ≤ (od l).length → x < Kp l (od l) k → ∃ a, ∃ ha : a < (od l).length, Kp l (od l) a ≤ x ∧ x < Kp l (od l) (a + 1) := by
    intro k
    induction k with
    | zero => intro _ h0; simp [Kp, lens, kr] at h0
    | succ k ih =>
      intro hk hxk
      by_cases h1 : x < Kp l (od l) k
      · exact ih (by omega) h1
      · exact ⟨k, hk, by omega, hxk⟩
  obtain ⟨a, ha, h1, h2⟩ := key _ (Nat.le_refl _) (by rw [Kp_total h]; exact hx)
  have hm := (od_mem.1 (List.getElem_mem ha)).2
  have hidx : (od l).idxOf (od l)[a] = a := (od_nodup l).idxOf_getElem a ha
  refine ⟨(od l)[a], List.getElem_mem ha, by rw [Kb, hidx]; exact h1, ?_⟩
  rw [Kp_succ ha, un, if_neg (by omega)] at h2
  rw [Kb, hidx]; exact h2
theorem code_lt (h : ∀ n ∈ l, n ≤ 30) (hk : kr l ≤ 2 ^ 30) {i : Nat} (hi : i ∈ od l) : code l i < 2 ^ l.getD i 0 := by
  have h1 := Kb_end h hi
  have h2 := code_mul hi
  have hm := (od_mem.1 hi).2
  have hp : 2 ^ l.getD i 0 * 2 ^ (30 - l.getD i 0) = 2 ^ 30 := by rw [← Nat.pow_add]; congr 1; omega
  have hpos : 0 < 2 ^ (30 - l.getD i 0) := Nat.pow_pos (by decide)
  refine Nat.lt_of_mul_lt_mul_right (a := 2 ^ (30 - l.getD i 0)) ?_
  rw [hp, h2]; omega
/-- the first bits of a longer code -/
theorem front_eq {i k : Nat} (hi : i ∈ od l) (hk : k ∈ od l) (hle : l.getD i 0 ≤ l.getD k 0) : code l k / 2 ^ (l.getD k 0 - l.getD i 0) = Kb l k / 2 ^ (30 - l.getD i 0) := by
  have hm := (od_mem.1 hk).2
  rw [← code_mul hk]
  have e : 2 ^ (30 - l.getD i 0) = 2 ^ (l.getD k 0 - l.getD i 0) * 2 ^ (30 - l.getD k 0) := by rw [← Nat.pow_add]; congr 1; omega
  rw [e, Nat.mul_div_mul_right _ _ (Nat.pow_pos (by decide))]
theorem front_lt {i k : Nat} (hi : i ∈ od l) (hk : k ∈ od l) (hle : l.getD i 0 ≤ l.getD k 0) (hb : Bf l i k) : code l i < code l k / 2 ^ (l.getD k 0 - l.getD i 0) := by
  rw [front_eq hi hk hle]
  have h1 := Kb_next hi hk hb
  have h2 := code_mul hi
  have hpos : 0 < 2 ^ (30 - l.getD i 0) := Nat.pow_pos (by decide)
  rw [Nat.lt_iff_add_one_le, Nat.le_div_iff_mul_le hpos, Nat.add_mul, Nat.one_mul, h2]; exact h1
theorem front_gt {i k : Nat} (hi : i ∈ od l) (hk : k ∈ od l) (he : l.getD i 0 = l.getD k 0) (hb : Bf l k i) : code l k < code l i := by
  have h1 := Kb_next hk hi hb
  have h2 := code_mul hi
  have h3 := code_mul hk
  have hpos : 0 < 2 ^ (30 - l.getD i 0) := Nat.pow_pos (by decide)
  refine Nat.lt_of_mul_lt_mul_right (a := 2 ^ (30 - l.getD i 0)) ?_
  rw [← he] at h1 h3
  rw [h2, h3]; omega
/-- n bits that make v: a code that begins with them -/
def Beg (l : List Nat) (v n : Nat) : Prop := ∃ i ∈ od l, n ≤ l.getD i 0 ∧ code l i / 2 ^ (l.getD i 0 - n) = v
/-- no code is a beginning of them -/
def Non (l : List Nat) (v n : Nat) : Prop := ∀ i ∈ od l, l.getD i 0 ≤ n → v / 2 ^ (n - l.getD i 0) ≠ code l i
theorem beg_iff (h : ∀ n ∈ l, n ≤ 30) {v n : Nat} (hn : n ≤ 30) (hno : Non l v n) : Beg l v n ↔ v * 2 ^ (30 - n) < kr l := by
  constructor
  · rintro ⟨i, hi, hle, rfl⟩
    have h1 := Kb_end h hi
    have hm := (od_mem.1 hi).2
    have h2 := code_mul hi
    have e : 2 ^ (30 - n) = 2 ^ (l.getD i 0 - n) * 2 ^ (30 - l.getD i 0) := by rw [← Nat.pow_add]; congr 1; omega
    have h3 := Nat.div_mul_le_self (code l i) (2 ^ (l.getD i 0 - n))
    have h4 := Nat.mul_le_mul_right (2 ^ (30 - l.getD i 0)) h3
    have hpos : 0 < 2 ^ (30 - l.getD i 0) := Nat.pow_pos (by decide)
    rw [e, ← Nat.mul_assoc]; omega
  · intro hx
    obtain ⟨i, hi, h1, h2⟩ := Kb_find h hx
    have hm := (od_mem.1 hi).2
    have hc := code_mul hi
    have hpos : 0 < 2 ^ (30 - l.getD i 0) := Nat.pow_pos (by decide)
    by_cases hle : l.getD i 0 ≤ n
    · exfalso
      refine hno i hi hle ?_
      have e : 2 ^ (30 - l.getD i 0) = 2 ^ (n - l.getD i 0) * 2 ^ (30 - n) := by rw [← Nat.pow_add]; congr 1; omega
      have e2 : v / 2 ^ (n - l.getD i 0) = v * 2 ^ (30 - n) / 2 ^ (30 - l.getD i 0) := by rw [e, Nat.mul_div_mul_right _ _ (Nat.pow_pos (by decide))]
      rw [e2]
      rw [← hc] at h1 h2
      refine Nat.div_eq_of_lt_le h1 ?_
      rw [Nat.add_mul, Nat.one_mul]; exact h2
    · refine ⟨i, hi, by omega, ?_⟩
      have e : 2 ^ (30 - n) = 2 ^ (l.getD i 0 - n) * 2 ^ (30 - l.getD i 0) := by rw [← Nat.pow_add]; congr 1; omega
      have hmul : v * 2 ^ (30 - n) = v * 2 ^ (l.getD i 0 - n) * 2 ^ (30 - l.getD i 0) := by rw [e, Nat.mul_assoc]
      rw [hmul, ← hc] at h1 h2
      have g1 := Nat.le_of_mul_le_mul_right h1 hpos
      have g2 : v * 2 ^ (l.getD i 0 - n) < code l i + 1 := by
        refine Nat.lt_of_mul_lt_mul_right (a := 2 ^ (30 - l.getD i 0)) ?_
        rw [Nat.add_mul, Nat.one_mul]; exact h2
      have g3 : code l i = v * 2 ^ (l.getD i 0 - n) := by omega
      rw [g3]; exact Nat.mul_div_cancel _ (Nat.pow_pos (by decide))
end
end Go.Proofs.Ytdcgmkoonanpgaa.Pf
