
/- prefix: stable sorting, plain. -/
import Derived.Test.YtdcgmkoonanpgaaPf12
namespace Go.Proofs.Ytdcgmkoonanpgaa
set_option linter.unusedSimpArgs false
set_option linter.unusedVariables false
open Go.RowKit Sym

section
variable {α : Type} {g : α → Nat}
theorem mrg_split : ∀ (X1 Y1 X2 Y2 : List α), (∀ x ∈ X1, ∀ y ∈ Y2, g x ≤ g y) → (∀ y ∈ Y1, ∀ x ∈ X2, g y < g x) → mrg g (X1 ++ X2) (Y1 ++ Y2) = mrg g X1 Y1 ++ mrg g X2 Y2
  | [], [], X2, Y2, _, _ => by rw [mrg]; rfl
  | [], y :: Y1, X2, Y2, h1, h2 => by
    have ih := mrg_split [] Y1 X2 Y2 (fun x hx => by cases hx) (fun y hy => h2 y (by simp [hy]))
    rw [mrg] at ih ⊢
    cases X2 with
    | nil => simp only [List.nil_append, mrg]
    | cons x X2 =>
      have := h2 y (by simp) x (by simp)
      simp only [List.nil_append, List.cons_append] at ih ⊢
      rw [mrg_gt (by omega), ih]
  | x :: X1, [], X2, Y2, h1, h2 => by
    have ih := mrg_split X1 [] X2 Y2 (fun x hx => h1 x (by simp [hx])) (fun y hy => by cases hy)
    rw [mrg_nil] at ih ⊢
    cases Y2 with
    | nil => simp only [List.append_nil, mrg_nil]
    | cons y Y2 =>
      have := h1 x (by simp) y (by simp)
      simp only [List.nil_append, List.cons_append] at ih ⊢
      rw [mrg_le this, ih]
  | x :: X1, y :: Y1, X2, Y2, h1, h2 => by
    simp only [List.cons_append]
    by_cases h : g x ≤ g y
    · have ih := mrg_split X1 (y :: Y1) X2 Y2 (fun x hx => h1 x (by simp [hx])) h2
      simp only [List.cons_append] at ih
      rw [mrg_le h, mrg_le h, ih]; rfl
    · have ih := mrg_split (x :: X1) Y1 X2 Y2 h1 (fun y hy => h2 y (by simp [hy]))
      simp only [List.cons_append] at ih
      rw [mrg_gt h, mrg_gt h, ih]; rfl
termination_by X1 Y1 => X1.length + Y1.length
/-- by weight -/
def Srt (g : α → Nat) (l : List α) : Prop := l.Pairwise fun a b => g a ≤ g b
theorem pos_split {w : Nat} : ∀ (L2 : List Nat) (L1 : List Nat), (∀ z ∈ L1, z ≤ w) → (∀ z ∈ L2, w < z) → pos w (L1 ++ L2) (L1.length + L2.length) = L1.length := by
  intro L2 L1 h1 h2
  have key : ∀ k, k ≤ L2.length → pos w (L1 ++ L2) (L1.length + k) = L1.length := by
    intro k
    induction k with
    | zero =>
      intro _
      rw [Nat.add_zero]
      rcases Nat.eq_zero_or_pos L1.length with h | h
      · rw [h]; rfl
      · obtain ⟨m, hm⟩ : ∃ m, L1.length = m + 1 := ⟨L1.length - 1, by omega⟩
        have hg : (L1 ++ L2).getD m 0 = L1[m] := by rw [List.getD_eq_getElem?_getD, List.getElem?_append_left (by omega), List.getElem?_eq_getElem (by omega)]; rfl
        have := h1 L1[m] (List.getElem_mem _)
        rw [hm, pos, hg, if_neg (by omega)]
    | succ k ih =>
      intro hk
      have hg : (L1 ++ L2).getD (L1.length + k) 0 = L2[k] := by rw [List.getD_eq_getElem?_getD, List.getElem?_append_right (by omega), Nat.add_sub_cancel_left, List.getElem?_eq_getElem (by omega)]; rfl
      have := h2 L2[k] (List.getElem_mem _)
      rw [← Nat.add_assoc, pos, hg, if_pos this, ih (by omega)]
  exact key _ (Nat.le_refl _)
theorem ins_split {y : α} {L1 L2 : List α} (h1 : ∀ z ∈ L1, g z ≤ g y) (h2 : ∀ z ∈ L2, g y < g z) : ins g y (L1 ++ L2) = L1 ++ y :: L2 := by
  unfold ins
  have hp := pos_split (w := g y) (L2.map g) (L1.map g) (fun z hz => by obtain ⟨a, ha, rfl⟩ := List.mem_map.1 hz; exact h1 a ha) (fun z hz => by obtain ⟨a, ha, rfl⟩ := List.mem_map.1 hz; exact h2 a ha)
  rw [List.length_map, List.length_map] at hp
  rw [List.map_append, List.length_append, hp, List.take_left, List.drop_left]
theorem srt_cut {l : List α} (h : Srt g l) (w : Nat) : ∃ l1 l2, l = l1 ++ l2 ∧ (∀ z ∈ l1, g z ≤ w) ∧ ∀ z ∈ l2, w < g z := by
  induction l with
  | nil => exact ⟨[], [], rfl, by simp, by simp⟩
  | cons a l ih =>
    have h' := List.pairwise_cons.1 h
    by_cases ha : g a ≤ w
    · obtain ⟨l1, l2, e, h1, h2⟩ := ih h'.2
      refine ⟨a :: l1, l2, by rw [e]; rfl, fun z hz => ?_, h2⟩
      rcases List.mem_cons.1 hz with rfl | hz
      · exact ha
      · exact h1 z hz
    · refine ⟨[], a :: l, rfl, by simp, fun z hz => ?_⟩
      rcases List.mem_cons.1 hz with rfl | hz
      · omega
      · have := h'.1 z hz; omega
theorem ins_srt {y : α} {l : List α} (h : Srt g l) : Srt g (ins g y l) := by
  obtain ⟨l1, l2, rfl, h1, h2⟩ := srt_cut h (g y)
  rw [ins_split h1 h2]
  have hp := List.pairwise_append.1 h
  refine List.pairwise_append.2 ⟨hp.1, List.pairwise_cons.2 ⟨fun z hz => Nat.le_of_lt (h2 z hz), hp.2.1⟩, fun a ha b hb => ?_⟩
  rcases List.mem_cons.1 hb with rfl | hb
  · exact h1 a ha
  · exact hp.2.2 a ha b hb
theorem isort_srt : ∀ (n : Nat) (xs : List α), xs.length = n → Srt g (isort g xs)
  | 0, [], _ => List.Pairwise.nil
  | n + 1, xs, h => by
    obtain ⟨ys, x, rfl⟩ : ∃ ys x, xs = ys ++ [x] := ⟨xs.dropLast, xs.getLast (by intro e; subst e; simp at h), (List.dropLast_concat_getLast _).symm⟩
    rw [isort_snoc]
    exact ins_srt (isort_srt n ys (by simp at h; exact h))
theorem ins_mrg {X Y : List α} (hX : Srt g X) (hY : Srt g Y) (y : α) : ins g y (mrg g X Y) = mrg g X (ins g y Y) := by
  obtain ⟨X1, X2, rfl, a1, a2⟩ := srt_cut hX (g y)
  obtain ⟨Y1, Y2, rfl, b1, b2⟩ := srt_cut hY (g y)
  have c1 : ∀ x ∈ X1, ∀ z ∈ Y2, g x ≤ g z := fun x hx z hz => by have := a1 x hx; have := b2 z hz; omega
  have c2 : ∀ z ∈ Y1, ∀ x ∈ X2, g z < g x := fun z hz x hx => by have := b1 z hz; have := a2 x hx; omega
  rw [mrg_split X1 Y1 X2 Y2 c1 c2, ins_split b1 b2, ins_split]
  · have e : Y1 ++ y :: Y2 = (Y1 ++ [y]) ++ Y2 := by simp
    rw [e, mrg_split X1 (Y1 ++ [y]) X2 Y2 c1 (fun z hz x hx => by
      rcases List.mem_append.1 hz with h | h
      · exact c2 z h x hx
      · rw [List.mem_singleton] at h; subst h; exact a2 x hx)]
    have := mrg_split X1 Y1 [] [y] (fun x hx z hz => by rw [List.mem_singleton] at hz; subst hz; exact a1 x hx) (fun z hz x hx => by cases hx)
    rw [List.append_nil, mrg] at this
    rw [this]; simp
  · intro z hz
    rcases (mrg_mem _ _ _ _).1 hz with h | h
    · exact a1 z h
    · exact b1 z h
  · intro z hz
    rcases (mrg_mem _ _ _ _).1 hz with h | h
    · exact a2 z h
    · exact b2 z h
/-- sorted runs, merged -/
theorem isort_app (xs : List α) : ∀ (n : Nat) (ys : List α), ys.length = n → isort g (xs ++ ys) = mrg g (isort g xs) (isort g ys)
  | 0, [], _ => by rw [List.append_nil]; exact (mrg_nil g _).symm
  | n + 1, ys, h => by
    obtain ⟨zs, y, rfl⟩ : ∃ zs y, ys = zs ++ [y] := ⟨ys.dropLast, ys.getLast (by intro e; subst e; simp at h), (List.dropLast_concat_getLast _).symm⟩
    rw [← List.append_assoc, isort_snoc, isort_snoc, isort_app xs n zs (by simp at h; exact h)]
    exact ins_mrg (isort_srt _ _ rfl) (isort_srt _ _ rfl) y
/-- the chunks of s, each sorted -/
def chkF (g : α → Nat) (s : Nat) : Nat → List α → List α
  | 0, xs => isort g xs
  | f + 1, xs => if xs.length ≤ s then isort g xs else isort g (xs.take s) ++ chkF g s f (xs.drop s)
def chk (g : α → Nat) (s : Nat) (xs : List α) : List α := chkF g s xs.length xs
theorem chkF_fuel {s : Nat} (hs : 0 < s) : ∀ (f f' : Nat) (xs : List α), xs.length ≤ f → xs.length ≤ f' → chkF g s f xs = chkF g s f' xs
  | 0, 0, xs, _, _ => rfl
  | 0, f' + 1, xs, h, _ => by
    have : xs.length = 0 := by omega
    rw [chkF, chkF, if_pos (by omega)]
  | f + 1, 0, xs, _, h => by
    have : xs.length = 0 := by omega
    rw [chkF, chkF, if_pos (by omega)]
  | f + 1, f' + 1, xs, h, h' => by
    rw [chkF, chkF]
    by_cases c : xs.length ≤ s
    · rw [if_pos c, if_pos c]
    · rw [if_neg c, if_neg c, chkF_fuel hs f f' (xs.drop s) (by simp; omega) (by simp; omega)]
theorem chk_small {s : Nat} {xs : List α} (h : xs.length ≤ s) : chk g s xs = isort g xs := by
  unfold chk
  cases hl : xs.length with
  | zero => rw [chkF]
  | succ n => rw [chkF, if_pos h]
theorem chk_step {s : Nat} {xs : List α} (hs : 0 < s) (h : s ≤ xs.length) : chk g s xs = isort g (xs.take s) ++ chk g s (xs.drop s) := by
  by_cases e : xs.length = s
  · rw [chk_small (by omega), List.take_of_length_le (by omega), List.drop_of_length_le (by omega)]
    show _ = _ ++ isort g []
    exact (List.append_nil _).symm
  · unfold chk
    obtain ⟨n, hn⟩ : ∃ n, xs.length = n + 1 := ⟨xs.length - 1, by omega⟩
    rw [hn, chkF, if_neg (by omega)]
    congr 1
    exact chkF_fuel hs _ _ _ (by simp; omega) (Nat.le_refl _)
theorem chk_len {s : Nat} (hs : 0 < s) : ∀ (n : Nat) (xs : List α), xs.length ≤ n → (chk g s xs).length = xs.length
  | 0, xs, h => by rw [chk_small (by omega), isort_len]
  | n + 1, xs, h => by
    by_cases c : xs.length ≤ s
    · rw [chk_small c, isort_len]
    · rw [chk_step hs (by omega), List.length_append, isort_len, chk_len hs n (xs.drop s) (by simp; omega)]; simp; omega
theorem chk_mem {s : Nat} (hs : 0 < s) (z : α) : ∀ (n : Nat) (xs : List α), xs.length ≤ n → (z ∈ chk g s xs → z ∈ xs)
  | 0, xs, h => fun hz => by rw [chk_small (by omega)] at hz; exact (isort_mem _ _ _).1 hz
  | n + 1, xs, h => fun hz => by
    by_cases c : xs.length ≤ s
    · rw [chk_small c] at hz; exact (isort_mem _ _ _).1 hz
    · rw [chk_step hs (by omega)] at hz
      rcases List.mem_append.1 hz with h1 | h1
      · exact List.mem_of_mem_take ((isort_mem _ _ _).1 h1)
      · exact List.mem_of_mem_drop (chk_mem hs z n (xs.drop s) (by simp; omega) h1)
end
end Go.Proofs.Ytdcgmkoonanpgaa
