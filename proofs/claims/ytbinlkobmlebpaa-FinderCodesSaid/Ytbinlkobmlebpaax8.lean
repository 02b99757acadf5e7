/- Texts of the claim, laid together: FdS, Fd7. -/
import Derived.Test.Ytbinlkobmlebpaax0
import Derived.Test.Ytbinlkobmlebpaax6
import Derived.Test.Ytbinlkobmlebpaax7
set_option linter.unusedSimpArgs false
set_option linter.unusedVariables false
namespace Go.Proofs.Ytbinlkobmlebpaa
open Go.RowKit Sym
open Fi
theorem Sym.M.to {w0 w : World} {S : Nat → Prop} {rs rs' : List Rg} (h : M w0 S w rs) (e : rs = rs') : M w0 S w rs' := e ▸ h
theorem Sym.twoF {a a' : Rg} (h1 : a = a') (_ : True = True) : [a] = [a'] := by rw [h1]
namespace Fi
def cmv (a b : Int) : Int := if a < b then -1 else if b < a then 1 else 0
def cm2 (a b : Mk) : Int := if cmv a.y b.y ≠ 0 then cmv a.y b.y else cmv a.x b.x
def key (m : Mk) : Nat := (m.y + 1000000).toNat * 4000001 + (m.x + 1000000).toNat
def bdm (m : Mk) : Prop := -1000000 ≤ m.x ∧ m.x ≤ 1000000 ∧ -1000000 ≤ m.y ∧ m.y ≤ 1000000
theorem cm2_lt {a b : Mk} (ha : bdm a) (hb : bdm b) : cm2 a b < 0 ↔ key a < key b := by
  unfold bdm at ha hb; unfold cm2 cmv key
  by_cases h1 : a.y < b.y
  · simp only [if_pos h1]; simp; omega
  · by_cases h2 : b.y < a.y
    · simp only [if_neg h1, if_pos h2]; simp; omega
    · simp only [if_neg h1, if_neg h2]; simp
      by_cases h3 : a.x < b.x
      · simp only [if_pos h3]; constructor <;> intro <;> omega
      · by_cases h4 : b.x < a.x
        · simp only [if_neg h3, if_pos h4]; constructor <;> intro h <;> omega
        · simp only [if_neg h3, if_neg h4]; constructor <;> intro h <;> omega
end Fi
def mrg {α : Type} (g : α → Nat) : List α → List α → List α
 | [], ys => ys
 | x :: xs, [] => x :: xs
 | x :: xs, y :: ys => if g x ≤ g y then x :: mrg g xs (y :: ys) else y :: mrg g (x :: xs) ys
termination_by xs ys => xs.length + ys.length
theorem mrg_nil {α : Type} (g : α → Nat) (xs : List α) : mrg g xs [] = xs := by cases xs <;> rw [mrg]
theorem mrg_le {α : Type} {g : α → Nat} {xs ys : List α} {x y : α} (h : g x ≤ g y) : mrg g (x :: xs) (y :: ys) = x :: mrg g xs (y :: ys) := by rw [mrg, if_pos h]
theorem mrg_gt {α : Type} {g : α → Nat} {xs ys : List α} {x y : α} (h : ¬ g x ≤ g y) : mrg g (x :: xs) (y :: ys) = y :: mrg g (x :: xs) ys := by rw [mrg, if_neg h]
theorem mrg_len {α : Type} (g : α → Nat) : ∀ (xs ys : List α), (mrg g xs ys).length = xs.length + ys.length
 | [], ys => by rw [mrg]; simp
 | x :: xs, [] => by rw [mrg_nil]; simp
 | x :: xs, y :: ys => by
  by_cases h : g x ≤ g y
  · rw [mrg_le h, List.length_cons, mrg_len g xs (y :: ys)]; simp; omega
  · rw [mrg_gt h, List.length_cons, mrg_len g (x :: xs) ys]; simp; omega
termination_by xs ys => xs.length + ys.length
theorem mrg_mem {α : Type} (g : α → Nat) : ∀ (xs ys : List α) (z : α), z ∈ mrg g xs ys ↔ z ∈ xs ∨ z ∈ ys
  | [], ys, z => by rw [mrg]; simp
  | x :: xs, [], z => by rw [mrg_nil]; simp
  | x :: xs, y :: ys, z => by
    by_cases h : g x ≤ g y
    · rw [mrg_le h, List.mem_cons, mrg_mem g xs (y :: ys)]; simp only [List.mem_cons]; exact or_assoc.symm
    · rw [mrg_gt h, List.mem_cons, mrg_mem g (x :: xs) ys]; simp only [List.mem_cons]; constructor
      · rintro (h | h | h)
        · exact .inr (.inl h)
        · exact .inl h
        · exact .inr (.inr h)
      · rintro (h | h | h)
        · exact .inr (.inl h)
        · exact .inl h
        · exact .inr (.inr h)
termination_by xs ys => xs.length + ys.length
def pos (w : Nat) (ws : List Nat) : Nat → Nat
 | 0 => 0
 | k + 1 => if w < ws.getD k 0 then pos w ws k else k + 1
def ins {α : Type} (g : α → Nat) (x : α) (S : List α) : List α := S.take (pos (g x) (S.map g) S.length) ++ x :: S.drop (pos (g x) (S.map g) S.length)
def isort {α : Type} (g : α → Nat) (xs : List α) : List α := xs.foldl (fun S x => ins g x S) []
theorem isort_snoc {α : Type} (g : α → Nat) (xs : List α) (x : α) : isort g (xs ++ [x]) = ins g x (isort g xs) := by unfold isort; rw [List.foldl_append]; rfl
theorem ins_perm {α : Type} (g : α → Nat) (x : α) (S : List α) : (ins g x S).Perm (x :: S) := by
 have h := List.perm_middle (a := x) (l₁ := S.take (pos (g x) (S.map g) S.length)) (l₂ := S.drop (pos (g x) (S.map g) S.length))
 rw [List.take_append_drop] at h; exact h
theorem isort_perm {α : Type} (g : α → Nat) : ∀ (n : Nat) (xs : List α), xs.length = n → (isort g xs).Perm xs
 | 0, [], _ => List.Perm.refl _
 | n + 1, xs, h => by
  obtain ⟨ys, x, rfl⟩ : ∃ ys x, xs = ys ++ [x] := ⟨xs.dropLast, xs.getLast (by intro e; subst e; simp at h), (List.dropLast_concat_getLast _).symm⟩
  rw [isort_snoc]
  refine (ins_perm g x _).trans ?_
  refine ((isort_perm g n ys (by simp at h; exact h)).cons x).trans ?_
  exact (List.perm_append_singleton x ys).symm
theorem isort_len {α : Type} (g : α → Nat) (xs : List α) : (isort g xs).length = xs.length := (isort_perm g _ xs rfl).length_eq
theorem isort_mem {α : Type} (g : α → Nat) (xs : List α) (z : α) : z ∈ isort g xs ↔ z ∈ xs := (isort_perm g _ xs rfl).mem_iff
def srt {α : Type} (g : α → Nat) (xs : List α) (a i : Nat) : List α := xs.take a ++ isort g ((xs.drop a).take (i - a)) ++ xs.drop i
theorem srt_zero {α : Type} (g : α → Nat) (xs : List α) (a : Nat) : srt g xs a a = xs := by
 unfold srt; rw [Nat.sub_self, List.take_zero]; show xs.take a ++ [] ++ xs.drop a = xs; rw [List.append_nil, List.take_append_drop]
theorem srt_one {α : Type} (g : α → Nat) (xs : List α) {a : Nat} (h : a < xs.length) : srt g xs a (a + 1) = xs := by
 unfold srt
 have e : (xs.drop a).take (a + 1 - a) = [xs[a]] := by rw [Nat.add_sub_cancel_left, List.drop_eq_getElem_cons h]; rfl
 rw [e]
 show xs.take a ++ [xs[a]] ++ xs.drop (a + 1) = xs
 rw [List.take_append_getElem h, List.take_append_drop]
def dat {α : Type} (T S : List α) (x : α) (U : List α) (k : Nat) : List α := T ++ S.take k ++ x :: S.drop k ++ U
theorem dat_len {α : Type} (T S : List α) (x : α) (U : List α) {k : Nat} (h : k ≤ S.length) : (dat T S x U k).length = T.length + S.length + 1 + U.length := by unfold dat; simp; omega
theorem dat_succ {α : Type} (T S : List α) (x : α) (U : List α) {m : Nat} (h : m < S.length) : dat T S x U (m + 1) = (T ++ S.take m) ++ S[m] :: x :: (S.drop (m + 1) ++ U) := by
 unfold dat; rw [← List.take_append_getElem h]; simp only [List.append_assoc, List.cons_append, List.nil_append]
theorem dat_here {α : Type} (T S : List α) (x : α) (U : List α) {m : Nat} (h : m < S.length) : dat T S x U m = (T ++ S.take m) ++ x :: S[m] :: (S.drop (m + 1) ++ U) := by
 unfold dat; rw [List.drop_eq_getElem_cons h]; simp only [List.append_assoc, List.cons_append, List.nil_append]
theorem dat_x {α : Type} (T S : List α) (x : α) (U : List α) {m j : Nat} (h : m < S.length) (e : j = T.length + m + 1) (hj : j < (dat T S x U (m + 1)).length) : (dat T S x U (m + 1))[j] = x := by
 have : (dat T S x U (m + 1))[j]? = some x := by
  rw [dat_succ T S x U h, List.getElem?_append_right (by simp; omega)]
  have : j - (T ++ S.take m).length = 1 := by simp; omega
  rw [this]; rfl
 rw [List.getElem?_eq_getElem hj, Option.some.injEq] at this; exact this
theorem dat_y {α : Type} (T S : List α) (x : α) (U : List α) {m j : Nat} (h : m < S.length) (e : j = T.length + m) (hj : j < (dat T S x U (m + 1)).length) : (dat T S x U (m + 1))[j] = S[m] := by
 have : (dat T S x U (m + 1))[j]? = some S[m] := by
  rw [dat_succ T S x U h, List.getElem?_append_right (by simp; omega)]
  have : j - (T ++ S.take m).length = 0 := by simp; omega
  rw [this]; rfl
 rw [List.getElem?_eq_getElem hj, Option.some.injEq] at this; exact this
theorem swap_set {α : Type} (A B : List α) (x y : α) {j i : Nat} (h1 : j = A.length + 1) (h2 : i = A.length) : ((A ++ y :: x :: B).set j y).set i x = A ++ x :: y :: B := by
 subst h1 h2
 rw [List.set_append_right _ _ (by omega), List.set_append_right _ _ (by omega), Nat.add_sub_cancel_left, Nat.sub_self]; rfl
theorem dat_swap {α : Type} (T S : List α) (x : α) (U : List α) {m j i : Nat} (h : m < S.length) (h1 : j = T.length + m + 1) (h2 : i = T.length + m) : ((dat T S x U (m + 1)).set j S[m]).set i x = dat T S x U m := by
 rw [dat_succ T S x U h, dat_here T S x U h]
 exact swap_set _ _ _ _ (by simp; omega) (by simp; omega)
theorem srt_dat {α : Type} (g : α → Nat) (xs : List α) {a i : Nat} (hi : i < xs.length) (ha : a ≤ i) : srt g xs a i = dat (xs.take a) (isort g ((xs.drop a).take (i - a))) xs[i] (xs.drop (i + 1)) (i - a) := by
 unfold srt dat
 have hl : (isort g ((xs.drop a).take (i - a))).length = i - a := by rw [isort_len]; simp; omega
 obtain ⟨S, hS⟩ : ∃ S, S = isort g ((xs.drop a).take (i - a)) := ⟨_, rfl⟩
 rw [← hS] at hl ⊢
 rw [List.take_of_length_le (show S.length ≤ i - a by omega), List.drop_of_length_le (show S.length ≤ i - a by omega), List.drop_eq_getElem_cons hi]
 simp only [List.append_assoc, List.cons_append, List.nil_append]
theorem srt_next {α : Type} (g : α → Nat) (xs : List α) {a i k : Nat} (hi : i < xs.length) (ha : a ≤ i) (hk : pos (g xs[i]) ((isort g ((xs.drop a).take (i - a))).map g) (i - a) = k) : dat (xs.take a) (isort g ((xs.drop a).take (i - a))) xs[i] (xs.drop (i + 1)) k = srt g xs a (i + 1) := by
 unfold srt dat
 have hl : (isort g ((xs.drop a).take (i - a))).length = i - a := by rw [isort_len]; simp; omega
 have e : (xs.drop a).take (i + 1 - a) = (xs.drop a).take (i - a) ++ [xs[i]] := by
  rw [show i + 1 - a = (i - a) + 1 by omega, ← List.take_append_getElem (show i - a < (xs.drop a).length by simp; omega), List.getElem_drop]
  congr 3; omega
 rw [e, isort_snoc, ins, hl, hk]; simp
theorem wget {S : List Mk} {m : Nat} (h : m < S.length) : (S.map key).getD m 0 = key S[m] := by rw [List.getD_eq_getElem?_getD, List.getElem?_map, List.getElem?_eq_getElem h]; rfl
section
variable {α : Type} {g : α → Nat}
theorem mrg_split : ∀ (X1 Y1 X2 Y2 : List α), (∀ x ∈ X1, ∀ y ∈ Y2, g x ≤ g y) → (∀ y ∈ Y1, ∀ x ∈ X2, g y < g x) → mrg g (X1 ++ X2) (Y1 ++ Y2) = mrg g X1 Y1 ++ mrg g X2 Y2
  | [], [], X2, Y2, _, _ => by rw [mrg]; rfl
  | [], y :: Y1, X2, Y2, h1, h2 => by
    have ih := mrg_split [] Y1 X2 Y2 (fun x hx => by cases hx) (fun y hy => h2 y (by simp [hy]))
    rw [mrg] at ih ⊢
    cases X2 with
    | nil => simp only [List.nil_append, mrg]
    | cons x X2 =>
      have := h2 y (by simp) x (by simp)
      simp only [List.nil_append, List.cons_append] at ih ⊢
      rw [mrg_gt (by omega), ih]
  | x :: X1, [], X2, Y2, h1, h2 => by
    have ih := mrg_split X1 [] X2 Y2 (fun x hx => h1 x (by simp [hx])) (fun y hy => by cases hy)
    rw [mrg_nil] at ih ⊢
    cases Y2 with
    | nil => simp only [List.append_nil, mrg_nil]
    | cons y Y2 =>
      have := h1 x (by simp) y (by simp)
      simp only [List.nil_append, List.cons_append] at ih ⊢
      rw [mrg_le this, ih]
  | x :: X1, y :: Y1, X2, Y2, h1, h2 => by
    simp only [List.cons_append]
    by_cases h : g x ≤ g y
    · have ih := mrg_split X1 (y :: Y1) X2 Y2 (fun x hx => h1 x (by simp [hx])) h2
      simp only [List.cons_append] at ih
      rw [mrg_le h, mrg_le h, ih]; rfl
    · have ih := mrg_split (x :: X1) Y1 X2 Y2 h1 (fun y hy => h2 y (by simp [hy]))
      simp only [List.cons_append] at ih
      rw [mrg_gt h, mrg_gt h, ih]; rfl
termination_by X1 Y1 => X1.length + Y1.length
def Srt (g : α → Nat) (l : List α) : Prop := l.Pairwise fun a b => g a ≤ g b
theorem pos_split {w : Nat} : ∀ (L2 : List Nat) (L1 : List Nat), (∀ z ∈ L1, z ≤ w) → (∀ z ∈ L2, w < z) → pos w (L1 ++ L2) (L1.length + L2.length) = L1.length := by
  intro L2 L1 h1 h2
  have key : ∀ k, k ≤ L2.length → pos w (L1 ++ L2) (L1.length + k) = L1.length := by
    intro k
    induction k with
    | zero =>
      intro _
      rw [Nat.add_zero]
      rcases Nat.eq_zero_or_pos L1.length with h | h
      · rw [h]; rfl
      · obtain ⟨m, hm⟩ : ∃ m, L1.length = m + 1 := ⟨L1.length - 1, by omega⟩
        have hg : (L1 ++ L2).getD m 0 = L1[m] := by rw [List.getD_eq_getElem?_getD, List.getElem?_append_left (by omega), List.getElem?_eq_getElem (by omega)]; rfl
        have := h1 L1[m] (List.getElem_mem _)
        rw [hm, pos, hg, if_neg (by omega)]
    | succ k ih =>
      intro hk
      have hg : (L1 ++ L2).getD (L1.length + k) 0 = L2[k] := by rw [List.getD_eq_getElem?_getD, List.getElem?_append_right (by omega), Nat.add_sub_cancel_left, List.getElem?_eq_getElem (by omega)]; rfl
      have := h2 L2[k] (List.getElem_mem _)
      rw [← Nat.add_assoc, pos, hg, if_pos this, ih (by omega)]
  exact key _ (Nat.le_refl _)
theorem ins_split {y : α} {L1 L2 : List α} (h1 : ∀ z ∈ L1, g z ≤ g y) (h2 : ∀ z ∈ L2, g y < g z) : ins g y (L1 ++ L2) = L1 ++ y :: L2 := by
 unfold ins
 have hp := pos_split (w := g y) (L2.map g) (L1.map g) (fun z hz => by obtain ⟨a, ha, rfl⟩ := List.mem_map.1 hz; exact h1 a ha) (fun z hz => by obtain ⟨a, ha, rfl⟩ := List.mem_map.1 hz; exact h2 a ha)
 rw [List.length_map, List.length_map] at hp
 rw [List.map_append, List.length_append, hp, List.take_left, List.drop_left]
theorem srt_cut {l : List α} (h : Srt g l) (w : Nat) : ∃ l1 l2, l = l1 ++ l2 ∧ (∀ z ∈ l1, g z ≤ w) ∧ ∀ z ∈ l2, w < g z := by
  induction l with
  | nil => exact ⟨[], [], rfl, by simp, by simp⟩
  | cons a l ih =>
    have h' := List.pairwise_cons.1 h
    by_cases ha : g a ≤ w
    · obtain ⟨l1, l2, e, h1, h2⟩ := ih h'.2
      refine ⟨a :: l1, l2, by rw [e]; rfl, fun z hz => ?_, h2⟩
      rcases List.mem_cons.1 hz with rfl | hz
      · exact ha
      · exact h1 z hz
    · refine ⟨[], a :: l, rfl, by simp, fun z hz => ?_⟩
      rcases List.mem_cons.1 hz with rfl | hz
      · omega
      · have := h'.1 z hz; omega
theorem ins_srt {y : α} {l : List α} (h : Srt g l) : Srt g (ins g y l) := by
 obtain ⟨l1, l2, rfl, h1, h2⟩ := srt_cut h (g y)
 rw [ins_split h1 h2]
 have hp := List.pairwise_append.1 h
 refine List.pairwise_append.2 ⟨hp.1, List.pairwise_cons.2 ⟨fun z hz => Nat.le_of_lt (h2 z hz), hp.2.1⟩, fun a ha b hb => ?_⟩
 rcases List.mem_cons.1 hb with rfl | hb
 · exact h1 a ha
 · exact hp.2.2 a ha b hb
theorem isort_srt : ∀ (n : Nat) (xs : List α), xs.length = n → Srt g (isort g xs)
 | 0, [], _ => List.Pairwise.nil
 | n + 1, xs, h => by
  obtain ⟨ys, x, rfl⟩ : ∃ ys x, xs = ys ++ [x] := ⟨xs.dropLast, xs.getLast (by intro e; subst e; simp at h), (List.dropLast_concat_getLast _).symm⟩
  rw [isort_snoc]
  exact ins_srt (isort_srt n ys (by simp at h; exact h))
theorem ins_mrg {X Y : List α} (hX : Srt g X) (hY : Srt g Y) (y : α) : ins g y (mrg g X Y) = mrg g X (ins g y Y) := by
  obtain ⟨X1, X2, rfl, a1, a2⟩ := srt_cut hX (g y)
  obtain ⟨Y1, Y2, rfl, b1, b2⟩ := srt_cut hY (g y)
  have c1 : ∀ x ∈ X1, ∀ z ∈ Y2, g x ≤ g z := fun x hx z hz => by have := a1 x hx; have := b2 z hz; omega
  have c2 : ∀ z ∈ Y1, ∀ x ∈ X2, g z < g x := fun z hz x hx => by have := b1 z hz; have := a2 x hx; omega
  rw [mrg_split X1 Y1 X2 Y2 c1 c2, ins_split b1 b2, ins_split]
  · have e : Y1 ++ y :: Y2 = (Y1 ++ [y]) ++ Y2 := by simp
    rw [e, mrg_split X1 (Y1 ++ [y]) X2 Y2 c1 (fun z hz x hx => by
      rcases List.mem_append.1 hz with h | h
      · exact c2 z h x hx
      · rw [List.mem_singleton] at h; subst h; exact a2 x hx)]
    have := mrg_split X1 Y1 [] [y] (fun x hx z hz => by rw [List.mem_singleton] at hz; subst hz; exact a1 x hx) (fun z hz x hx => by cases hx)
    rw [List.append_nil, mrg] at this
    rw [this]; simp
  · intro z hz
    rcases (mrg_mem _ _ _ _).1 hz with h | h
    · exact a1 z h
    · exact b1 z h
  · intro z hz
    rcases (mrg_mem _ _ _ _).1 hz with h | h
    · exact a2 z h
    · exact b2 z h
theorem isort_app (xs : List α) : ∀ (n : Nat) (ys : List α), ys.length = n → isort g (xs ++ ys) = mrg g (isort g xs) (isort g ys)
 | 0, [], _ => by rw [List.append_nil]; exact (mrg_nil g _).symm
 | n + 1, ys, h => by
  obtain ⟨zs, y, rfl⟩ : ∃ zs y, ys = zs ++ [y] := ⟨ys.dropLast, ys.getLast (by intro e; subst e; simp at h), (List.dropLast_concat_getLast _).symm⟩
  rw [← List.append_assoc, isort_snoc, isort_snoc, isort_app xs n zs (by simp at h; exact h)]
  exact ins_mrg (isort_srt _ _ rfl) (isort_srt _ _ rfl) y
def chkF (g : α → Nat) (s : Nat) : Nat → List α → List α
 | 0, xs => isort g xs
 | f + 1, xs => if xs.length ≤ s then isort g xs else isort g (xs.take s) ++ chkF g s f (xs.drop s)
def chk (g : α → Nat) (s : Nat) (xs : List α) : List α := chkF g s xs.length xs
theorem chkF_fuel {s : Nat} (hs : 0 < s) : ∀ (f f' : Nat) (xs : List α), xs.length ≤ f → xs.length ≤ f' → chkF g s f xs = chkF g s f' xs
 | 0, 0, xs, _, _ => rfl
 | 0, f' + 1, xs, h, _ => by
  have : xs.length = 0 := by omega
  rw [chkF, chkF, if_pos (by omega)]
 | f + 1, 0, xs, _, h => by
  have : xs.length = 0 := by omega
  rw [chkF, chkF, if_pos (by omega)]
 | f + 1, f' + 1, xs, h, h' => by
  rw [chkF, chkF]
  by_cases c : xs.length ≤ s
  · rw [if_pos c, if_pos c]
  · rw [if_neg c, if_neg c, chkF_fuel hs f f' (xs.drop s) (by simp; omega) (by simp; omega)]
theorem chk_small {s : Nat} {xs : List α} (h : xs.length ≤ s) : chk g s xs = isort g xs := by
 unfold chk
 cases hl : xs.length with
 | zero => rw [chkF]
 | succ n => rw [chkF, if_pos h]
theorem chk_step {s : Nat} {xs : List α} (hs : 0 < s) (h : s ≤ xs.length) : chk g s xs = isort g (xs.take s) ++ chk g s (xs.drop s) := by
  by_cases e : xs.length = s
  · rw [chk_small (by omega), List.take_of_length_le (by omega), List.drop_of_length_le (by omega)]
    show _ = _ ++ isort g []
    exact (List.append_nil _).symm
  · unfold chk
    obtain ⟨n, hn⟩ : ∃ n, xs.length = n + 1 := ⟨xs.length - 1, by omega⟩
    rw [hn, chkF, if_neg (by omega)]
    congr 1
    exact chkF_fuel hs _ _ _ (by simp; omega) (Nat.le_refl _)
theorem chk_len {s : Nat} (hs : 0 < s) : ∀ (n : Nat) (xs : List α), xs.length ≤ n → (chk g s xs).length = xs.length
 | 0, xs, h => by rw [chk_small (by omega), isort_len]
 | n + 1, xs, h => by
  by_cases c : xs.length ≤ s
  · rw [chk_small c, isort_len]
  · rw [chk_step hs (by omega), List.length_append, isort_len, chk_len hs n (xs.drop s) (by simp; omega)]; simp; omega
theorem chk_mem {s : Nat} (hs : 0 < s) (z : α) : ∀ (n : Nat) (xs : List α), xs.length ≤ n → (z ∈ chk g s xs → z ∈ xs)
  | 0, xs, h => fun hz => by rw [chk_small (by omega)] at hz; exact (isort_mem _ _ _).1 hz
  | n + 1, xs, h => fun hz => by
    by_cases c : xs.length ≤ s
    · rw [chk_small c] at hz; exact (isort_mem _ _ _).1 hz
    · rw [chk_step hs (by omega)] at hz
      rcases List.mem_append.1 hz with h1 | h1
      · exact List.mem_of_mem_take ((isort_mem _ _ _).1 h1)
      · exact List.mem_of_mem_drop (chk_mem hs z n (xs.drop s) (by simp; omega) h1)
end
def swp {α : Type} (A X B Y C : List α) (i : Nat) : List α := A ++ (Y.take i ++ X.drop i) ++ B ++ (X.take i ++ Y.drop i) ++ C
theorem swp_zero {α : Type} (A X B Y C : List α) : swp A X B Y C 0 = A ++ X ++ B ++ Y ++ C := by simp [swp]
theorem swp_end {α : Type} (A X B Y C : List α) (h : X.length = Y.length) : swp A X B Y C X.length = A ++ Y ++ B ++ X ++ C := by
 unfold swp
 rw [List.take_of_length_le (show Y.length ≤ X.length by omega), List.drop_of_length_le (Nat.le_refl _), List.take_of_length_le (Nat.le_refl _), List.drop_of_length_le (show Y.length ≤ X.length by omega)]; simp
theorem swp_len {α : Type} (A X B Y C : List α) (h : X.length = Y.length) {i : Nat} (hi : i ≤ X.length) : (swp A X B Y C i).length = A.length + X.length + B.length + Y.length + C.length := by unfold swp; simp; omega
theorem swp_form {α : Type} {A X B Y C : List α} (h : X.length = Y.length) {i : Nat} (hi : i < X.length) : swp A X B Y C i = (A ++ Y.take i) ++ X[i] :: ((X.drop (i + 1) ++ B ++ X.take i) ++ Y[i] :: (Y.drop (i + 1) ++ C)) := by
 unfold swp
 rw [List.drop_eq_getElem_cons hi, List.drop_eq_getElem_cons (show i < Y.length by omega)]
 simp only [List.append_assoc, List.cons_append]
theorem swp_next {α : Type} {A X B Y C : List α} (h : X.length = Y.length) {i : Nat} (hi : i < X.length) : swp A X B Y C (i + 1) = (A ++ Y.take i) ++ Y[i] :: ((X.drop (i + 1) ++ B ++ X.take i) ++ X[i] :: (Y.drop (i + 1) ++ C)) := by
 unfold swp
 rw [← List.take_append_getElem hi, ← List.take_append_getElem (show i < Y.length by omega)]
 simp only [List.append_assoc, List.cons_append, List.nil_append]
theorem two_x {α : Type} (P Q R : List α) (x y : α) {j : Nat} (e : j = P.length) (hj : j < (P ++ x :: (Q ++ y :: R)).length) : (P ++ x :: (Q ++ y :: R))[j] = x := by
 subst e; simp
theorem two_y {α : Type} (P Q R : List α) (x y : α) {j : Nat} (e : j = P.length + 1 + Q.length) (hj : j < (P ++ x :: (Q ++ y :: R)).length) : (P ++ x :: (Q ++ y :: R))[j] = y := by
 have : (P ++ x :: (Q ++ y :: R))[j]? = some y := by
  rw [List.getElem?_append_right (by omega), e, show P.length + 1 + Q.length - P.length = Q.length + 1 by omega, List.getElem?_cons_succ, List.getElem?_append_right (Nat.le_refl _), Nat.sub_self]; rfl
 rw [List.getElem?_eq_getElem hj, Option.some.injEq] at this; exact this
theorem two_set {α : Type} (P Q R : List α) (x y : α) {i j : Nat} (e : i = P.length) (e2 : j = P.length + 1 + Q.length) : ((P ++ x :: (Q ++ y :: R)).set i y).set j x = P ++ y :: (Q ++ x :: R) := by
 subst e e2
 rw [List.set_append_right _ _ (Nat.le_refl _), Nat.sub_self, List.set_cons_zero, List.set_append_right _ _ (by omega), show P.length + 1 + Q.length - P.length = Q.length + 1 by omega, List.set_cons_succ, List.set_append_right _ _ (Nat.le_refl _), Nat.sub_self]; rfl
theorem swp_x {α : Type} {A X B Y C : List α} (h : X.length = Y.length) {i j : Nat} (hi : i < X.length) (e : j = A.length + i) (hj : j < (swp A X B Y C i).length) : (swp A X B Y C i)[j] = X[i] := by
 have hf := swp_form (A := A) (B := B) (C := C) h hi
 have := two_x (A ++ Y.take i) (X.drop (i + 1) ++ B ++ X.take i) (Y.drop (i + 1) ++ C) X[i] Y[i] (j := j) (by simp; omega) (by rw [← hf]; exact hj)
 rw [← this]; congr 1
theorem swp_y {α : Type} {A X B Y C : List α} (h : X.length = Y.length) {i j : Nat} (hi : i < X.length) (e : j = A.length + X.length + B.length + i) (hj : j < (swp A X B Y C i).length) : (swp A X B Y C i)[j] = Y[i] := by
 have hf := swp_form (A := A) (B := B) (C := C) h hi
 have := two_y (A ++ Y.take i) (X.drop (i + 1) ++ B ++ X.take i) (Y.drop (i + 1) ++ C) X[i] Y[i] (j := j) (by simp; omega) (by rw [← hf]; exact hj)
 rw [← this]; congr 1
theorem swp_step {α : Type} {A X B Y C : List α} (h : X.length = Y.length) {i j k : Nat} (hi : i < X.length) (e : j = A.length + i) (e2 : k = A.length + X.length + B.length + i) : ((swp A X B Y C i).set j Y[i]).set k X[i] = swp A X B Y C (i + 1) := by
 rw [swp_form h hi, swp_next h hi]
 exact two_set _ _ _ _ _ (by simp; omega) (by simp; omega)
theorem rot_u {α : Type} (qa qu qv qc : List α) (j : Nat) : qa ++ qu ++ qv ++ qc = qa ++ qu.take j ++ qu.drop j ++ qv ++ qc := by rw [List.append_assoc qa (qu.take j), List.take_append_drop]
theorem rot_v {α : Type} (qa qu qv qc : List α) (j : Nat) : qa ++ qu ++ qv ++ qc = qa ++ qu ++ qv.take j ++ qv.drop j ++ qc := by rw [List.append_assoc (qa ++ qu) (qv.take j), List.take_append_drop]
theorem srt_take {α : Type} {g : α → Nat} {l : List α} {u : Nat} (h : Srt g l) (hu : u ≤ l.length) {w : Nat} (hw : u = 0 ∨ (l.map g).getD (u - 1) 0 ≤ w) : ∀ z ∈ l.take u, g z ≤ w := by
  intro z hz
  obtain ⟨k, hk, rfl⟩ := List.getElem_of_mem hz
  rw [List.length_take] at hk
  have hu' : u - 1 < l.length := by omega
  have hg : (l.map g).getD (u - 1) 0 = g l[u - 1] := by rw [List.getD_eq_getElem?_getD, List.getElem?_map, List.getElem?_eq_getElem hu']; rfl
  rw [List.getElem_take]
  rcases hw with hw | hw
  · omega
  · rw [hg] at hw
    by_cases e : k = u - 1
    · subst e; exact hw
    · have := List.pairwise_iff_getElem.1 h k (u - 1) (by omega) hu' (by omega)
      omega
theorem srt_drop {α : Type} {g : α → Nat} {l : List α} {u : Nat} (h : Srt g l) {w : Nat} (hw : u = l.length ∨ w ≤ (l.map g).getD u 0) : ∀ z ∈ l.drop u, w ≤ g z := by
  intro z hz
  obtain ⟨k, hk, rfl⟩ := List.getElem_of_mem hz
  rw [List.length_drop] at hk
  have hu' : u < l.length := by omega
  have hg : (l.map g).getD u 0 = g l[u] := by rw [List.getD_eq_getElem?_getD, List.getElem?_map, List.getElem?_eq_getElem hu']; rfl
  rw [List.getElem_drop]
  rcases hw with hw | hw
  · omega
  · rw [hg] at hw
    by_cases e : k = 0
    · subst e; exact hw
    · have := List.pairwise_iff_getElem.1 h u (u + k) hu' (by omega) (by omega)
      omega
theorem mrg_one {α : Type} {g : α → Nat} {x : α} {l : List α} {u : Nat} (h : Srt g l) (hu : u ≤ l.length) (h1 : u = 0 ∨ (l.map g).getD (u - 1) 0 < g x) (h2 : u = l.length ∨ g x ≤ (l.map g).getD u 0) : mrg g [x] l = l.take u ++ x :: l.drop u := by
  have a1 : ∀ z ∈ l.take u, g z < g x := fun z hz => by
    rcases Nat.eq_zero_or_pos (g x) with e | e
    · have : u = 0 := by omega
      subst this; simp at hz
    · have := srt_take h hu (w := g x - 1) (by omega) z hz; omega
  have a2 := srt_drop h h2
  have e1 := mrg_split (g := g) [] (l.take u) [x] (l.drop u) (fun y hy => by cases hy) (fun y hy z hz => by rw [List.mem_singleton] at hz; subst hz; exact a1 y hy)
  have e2 := mrg_split (g := g) [x] [] [] (l.drop u) (fun y hy z hz => by rw [List.mem_singleton] at hy; subst hy; exact a2 z hz) (fun y hy => by cases hy)
  rw [List.take_append_drop, List.nil_append, mrg] at e1
  rw [List.append_nil, List.nil_append, mrg_nil, mrg] at e2
  rw [e1, e2]; rfl
theorem mrg_two {α : Type} {g : α → Nat} {y : α} {l : List α} {u : Nat} (h : Srt g l) (hu : u ≤ l.length) (h1 : u = 0 ∨ (l.map g).getD (u - 1) 0 ≤ g y) (h2 : u = l.length ∨ g y < (l.map g).getD u 0) : mrg g l [y] = l.take u ++ y :: l.drop u := by
 have a1 := srt_take h hu h1
 have a2 := srt_drop (u := u) h (w := g y + 1) (by omega)
 have e1 := mrg_split (g := g) (l.take u) [] (l.drop u) [y] (fun x hx z hz => by rw [List.mem_singleton] at hz; subst hz; exact a1 x hx) (fun x hx => by cases hx)
 have e2 := mrg_split (g := g) [] [y] (l.drop u) [] (fun x hx => by cases hx) (fun z hz x hx => by rw [List.mem_singleton] at hz; subst hz; have := a2 x hx; omega)
 rw [List.take_append_drop, List.nil_append, mrg_nil] at e1
 rw [List.append_nil, List.nil_append, mrg_nil, mrg] at e2
 rw [e1, e2]; rfl
def W (D : List Mk) (k : Nat) : Nat := (D.map key).getD k 0
theorem W_eq {D : List Mk} {k : Nat} (h : k < D.length) : W D k = key D[k] := wget h
theorem W_x {la lx ly lc : List Mk} {k : Nat} (h : k < lx.length) : W (la ++ lx ++ ly ++ lc) (la.length + k) = (lx.map key).getD k 0 := by
 unfold W
 rw [List.getD_eq_getElem?_getD, List.getD_eq_getElem?_getD, List.getElem?_map, List.getElem?_map, List.append_assoc, List.append_assoc, List.getElem?_append_right (by omega), Nat.add_sub_cancel_left, List.getElem?_append_left h]
theorem W_y {la lx ly lc : List Mk} {k : Nat} (h : k < ly.length) : W (la ++ lx ++ ly ++ lc) (la.length + lx.length + k) = (ly.map key).getD k 0 := by
 unfold W
 rw [List.getD_eq_getElem?_getD, List.getD_eq_getElem?_getD, List.getElem?_map, List.getElem?_map, List.append_assoc, List.getElem?_append_right (by simp), List.length_append, Nat.add_sub_cancel_left, List.getElem?_append_left h]
theorem D_len {la lx ly lc : List Mk} : (la ++ lx ++ ly ++ lc).length = la.length + lx.length + ly.length + lc.length := by simp only [List.length_append]
theorem sym_cut {lx ly : List Mk} {s t : Nat} (hx : Srt key lx) (hy : Srt key ly) (hs : s ≤ lx.length) (ht : t ≤ ly.length)
    (h1 : s = 0 ∨ t = ly.length ∨ (lx.map key).getD (s - 1) 0 ≤ (ly.map key).getD t 0) (h2 : t = 0 ∨ s = lx.length ∨ (ly.map key).getD (t - 1) 0 < (lx.map key).getD s 0) :
    mrg key lx ly = mrg key (lx.take s) (ly.take t) ++ mrg key (lx.drop s) (ly.drop t) := by
  have := mrg_split (g := key) (lx.take s) (ly.take t) (lx.drop s) (ly.drop t) (fun x h y h' => by
    rcases h1 with h1 | h1 | h1
    · subst h1; simp at h
    · subst h1; simp at h'
    · have a := srt_take hx hs (.inr h1) x h
      have b := srt_drop hy (u := t) (w := (ly.map key).getD t 0) (.inr (Nat.le_refl _)) y h'
      omega) (fun y h x h' => by
    rcases h2 with h2 | h2 | h2
    · subst h2; simp at h
    · subst h2; simp at h'
    · have a := srt_take hy ht (w := (ly.map key).getD (t - 1) 0) (.inr (Nat.le_refl _)) y h
      have b := srt_drop hx (u := s) (w := (lx.map key).getD s 0) (.inr (Nat.le_refl _)) x h'
      omega)
  rw [List.take_append_drop, List.take_append_drop] at this; exact this
theorem dat_x0 {α : Type} (T S : List α) (x : α) (U : List α) {m j : Nat} (h : m ≤ S.length) (e : j = T.length + m) (hj : j < (dat T S x U m).length) : (dat T S x U m)[j] = x := by
 have : (dat T S x U m)[j]? = some x := by
  unfold dat
  rw [List.append_assoc, List.getElem?_append_right (by simp; omega)]
  have : j - (T ++ S.take m).length = 0 := by simp; omega
  rw [this]; rfl
 rw [List.getElem?_eq_getElem hj, Option.some.injEq] at this; exact this
theorem dat_y0 {α : Type} (T S : List α) (x : α) (U : List α) {m j : Nat} (h : m < S.length) (e : j = T.length + m + 1) (hj : j < (dat T S x U m).length) : (dat T S x U m)[j] = S[m] := by
 have : (dat T S x U m)[j]? = some S[m] := by
  rw [dat_here T S x U h, List.getElem?_append_right (by simp; omega)]
  have : j - (T ++ S.take m).length = 1 := by simp; omega
  rw [this]; rfl
 rw [List.getElem?_eq_getElem hj, Option.some.injEq] at this; exact this
theorem dat_up {α : Type} (T S : List α) (x : α) (U : List α) {m i j : Nat} (h : m < S.length) (h1 : i = T.length + m) (h2 : j = T.length + m + 1) : ((dat T S x U m).set i S[m]).set j x = dat T S x U (m + 1) := by
 rw [dat_succ T S x U h, dat_here T S x U h]
 subst h1 h2
 rw [List.set_append_right _ _ (by simp; omega), List.set_append_right _ _ (by simp; omega), show T.length + m - (T ++ S.take m).length = 0 by simp; omega, show T.length + m + 1 - (T ++ S.take m).length = 1 by simp; omega]; rfl
theorem srt_at {α : Type} (g : α → Nat) {D ys : List α} {a b k : Nat} (ha : a = D.length) (hb : b = D.length + k) : srt g (D ++ ys) a b = D ++ isort g (ys.take k) ++ ys.drop k := by
 subst ha hb
 unfold srt; rw [List.take_left' rfl, List.drop_left' rfl, Nat.add_sub_cancel_left, List.drop_append, List.drop_of_length_le (show D.length ≤ D.length + k by omega), Nat.add_sub_cancel_left, List.nil_append]
theorem chk_two {α : Type} {g : α → Nat} {s : Nat} {ys : List α} (hs : 0 < s) (h : 2 * s ≤ ys.length) : chk g s ys = isort g (ys.take s) ++ isort g ((ys.drop s).take s) ++ chk g s (ys.drop (2 * s)) := by
 rw [chk_step hs (by omega), chk_step hs (show s ≤ (ys.drop s).length by rw [List.length_drop]; omega), List.drop_drop, List.append_assoc, show s + s = 2 * s by omega]
theorem mrg_two_chk {α : Type} {g : α → Nat} {s : Nat} {ys : List α} : mrg g (isort g (ys.take s)) (isort g ((ys.drop s).take s)) = isort g (ys.take (2 * s)) := by
 rw [← isort_app _ _ _ rfl, show 2 * s = s + s by omega, List.take_add]
theorem chk_last {α : Type} {g : α → Nat} {s : Nat} {ys : List α} (hs : 0 < s) (h : s ≤ ys.length) (h2 : ys.length ≤ 2 * s) : chk g s ys = isort g (ys.take s) ++ isort g (ys.drop s) := by
 rw [chk_step hs h, chk_small (show (ys.drop s).length ≤ s by rw [List.length_drop]; omega)]
theorem mrg_last {α : Type} {g : α → Nat} {s : Nat} {ys : List α} : mrg g (isort g (ys.take s)) (isort g (ys.drop s)) = isort g ys := by
 rw [← isort_app _ _ _ rfl, List.take_append_drop]
theorem mem_chk {s : Nat} (hs : 0 < s) {xs : List Mk} {P : Mk → Prop} (h : ∀ z ∈ xs, P z) : ∀ z ∈ chk key s xs, P z := fun z hz => h z (chk_mem hs z _ xs (Nat.le_refl _) hz)
theorem mem_isort {xs : List Mk} {P : Mk → Prop} (h : ∀ z ∈ xs, P z) : ∀ z ∈ isort key xs, P z := fun z hz => h z ((isort_mem _ _ _).1 hz)
theorem mem_app {xs ys : List Mk} {P : Mk → Prop} (h : ∀ z ∈ xs, P z) (h' : ∀ z ∈ ys, P z) : ∀ z ∈ xs ++ ys, P z := fun z hz => (List.mem_append.1 hz).elim (h z) (h' z)
theorem mem_tk {xs : List Mk} {P : Mk → Prop} (h : ∀ z ∈ xs, P z) (k : Nat) : ∀ z ∈ xs.take k, P z := fun z hz => h z (List.mem_of_mem_take hz)
theorem mem_dr {xs : List Mk} {P : Mk → Prop} (h : ∀ z ∈ xs, P z) (k : Nat) : ∀ z ∈ xs.drop k, P z := fun z hz => h z (List.mem_of_mem_drop hz)
end Go.Proofs.Ytbinlkobmlebpaa
namespace Go.Proofs.Ytbinlkobmlebpaa
open Go.RowKit Sym
open Fi
theorem isNaN_ret (z : Int) (w : World) :
  Ret Try.prog 102 #[i64 z] w fun v w' => v = .bool false ∧ Ext w w' := by
 have hM := M.start w
 refine enter Try.func102 rfl (by kernel_rfl) Try.ntmps102 rfl ?_
 refine C.seq <| C.region <| E.asg rfl rfl <| E.nil <| X.next <| C.seq <| C.region <| E.mv rfl rfl <| E.mv rfl rfl <| E.bin rfl rfl rfl rfl <| E.asg rfl rfl <| E.nil <| X.next <| C.ret <| ret1 rfl rfl ?_
 exact ⟨by simp, hM.toExt⟩
theorem compare_ret (a b : Int) (w : World) :
  Ret Try.prog 85 #[i64 a, i64 b] w fun v w' => v = i64 (cmv a b) ∧ Ext w w' := by
 have hM := M.start w
 refine enter Try.func85 rfl (by kernel_rfl) Try.ntmps85 rfl ?_
 refine C.seq <| C.region <| E.asg rfl rfl <| E.nil <| X.next <| C.seq <| C.region <| E.mv rfl rfl <| ?_
 refine E.call rfl rfl (isNaN_ret a _) ?_
 rintro _ w0 ⟨rfl, x0⟩
 have hM := hM.ext x0
 try dsimp only [Za, Zb, Zc, Zd, repl] at hM
 refine E.asg rfl rfl <| E.nil <| X.next <| C.seq <| C.region <| E.mv rfl rfl <| ?_
 refine E.call rfl rfl (isNaN_ret b _) ?_
 rintro _ w1 ⟨rfl, x1⟩
 have hM := hM.ext x1
 try dsimp only [Za, Zb, Zc, Zd, repl] at hM
 refine E.asg rfl rfl <| E.nil <| X.next <| C.seq <| C.seq <| C.region <| E.mv rfl rfl <| E.nil <| X.next <| ?_
 refine C.cond rfl (fun hC0 => ?_) (fun hC0 => ?_)
 ·
  cases hC0
 ·
  refine C.skip <| X.next <| C.seq <| C.seq <| C.region <| E.mv rfl rfl <| E.nil <| X.next <| ?_
  refine C.cond rfl (fun hC1 => ?_) (fun hC1 => ?_)
  ·
   cases hC1
  ·
   refine C.skip <| X.next <| C.seq <| C.seq <| C.region <| E.mv rfl rfl <| E.mv rfl rfl <| E.bin rfl rfl rfl rfl <| E.nil <| X.next <| ?_
   refine C.cond' rfl (fun hC2 => ?_) (fun hC2 => ?_)
   ·
    refine C.seq <| C.region <| E.asg rfl rfl <| E.nil <| X.next <| C.ret <| X.retT <| ret1 rfl rfl ?_
    exact ⟨by unfold cmv; rw [if_pos hC2], hM.toExt⟩
   ·
    refine C.skip <| X.next <| C.seq <| C.seq <| C.region <| E.mv rfl rfl <| E.mv rfl rfl <| E.bin rfl rfl rfl rfl <| E.nil <| X.next <| ?_
    refine C.cond' rfl (fun hC3 => ?_) (fun hC3 => ?_)
    ·
     refine C.seq <| C.region <| E.asg rfl rfl <| E.nil <| X.next <| C.ret <| X.retT <| ret1 rfl rfl ?_
     exact ⟨by unfold cmv; rw [if_neg hC2, if_pos (by omega)], hM.toExt⟩
    ·
     refine C.skip <| X.next <| C.seq <| C.region <| E.asg rfl rfl <| E.nil <| X.next <| C.ret <| ret1 rfl rfl ?_
     exact ⟨by unfold cmv; rw [if_neg hC2, if_neg (by omega)], hM.toExt⟩
theorem or_ret (p : Value) (a b : Int) (w : World) (hp : RdL i64 w p [a, b]) :
  Ret Try.prog 84 #[p] w fun v w' => v = i64 (if a ≠ 0 then a else b) ∧ Ext w w' := by
 have hM := M.start w
 refine enter Try.func84 rfl (by kernel_rfl) Try.ntmps84 rfl ?_
 refine C.seq <| C.region <| E.asg rfl rfl <| E.nil <| X.next <| C.seq <| C.region <| E.asg rfl rfl <| E.nil <| X.next <| C.seq <| C.seq <| C.region <| E.mv rfl rfl <| ?_
 refine E.lenv rfl (Rd.shape (hM.arg0 hp)) Try.underlying45 rfl ?_
 refine E.mv rfl rfl <| E.nil <| X.next <| C.block <| ?_

 refine C.loop1 [(3, _), (6, _), (7, _)] rfl (fun (k : Nat) => [(8, i64 k)]) (fun (k : Nat) w' => M w (Nn) w' [] ∧ k ≤ 2 ∧ ∀ j (h : j < [a, b].length), j < k → [a, b][j] = 0) (fun (k : Nat) => 2 - k) 0 ?_ ?_ ?_
 · exact Sub.cons rfl <| Sub.nil _
 · exact ⟨hM, Nat.zero_le _, fun j h h0 => absurd h0 (Nat.not_lt_zero _)⟩
 rintro k w0 ⟨hM, hk, h0⟩
 refine C.seq <| C.region <| E.bin rfl rfl rfl rfl <| E.nil <| X.next <| C.seq <| ?_
 refine C.cond' rfl (fun hC0 => ?_) (fun hC0 => ?_)
 ·
  have hk2 : k < [a, b].length := by simp at hC0 ⊢; omega
  refine C.skip <| X.next <| C.seq <| C.block <| C.seq <| C.region <| ?_
  refine E.get (k := k) rfl rfl (hM.arg0 hp) rfl hk2 Try.underlying45 (by kernel_rfl) Try.underlying3 rfl rfl rfl ?_
  refine E.asg rfl rfl <| E.nil <| X.next <| C.seq <| C.region <| E.mv rfl rfl <| E.mv rfl rfl <| E.bin rfl rfl rfl rfl <| E.nil <| X.next <| ?_
  refine C.cond' rfl (fun hC1 => ?_) (fun hC1 => ?_)
  ·
   refine C.seq <| C.region <| E.mv rfl rfl <| E.asg rfl rfl <| E.nil <| X.next <| C.ret <| X.retB <| X.retT <| X.retT <| X.retB <| X.retT <| ret1 rfl rfl ?_
   exact ⟨by
     have : k = 0 ∨ k = 1 := by simp at hk2; omega
     rcases this with rfl | rfl
     · rw [if_pos (show a ≠ 0 from hC1)]; rfl
     · rw [if_neg (by have := h0 0 (by simp) (by omega); simpa using this)]; rfl, hM.toExt⟩
  ·
   refine C.skip <| X.outN <| X.next <| C.region <| ?_
   refine E.add rfl rfl (by omega) rfl ?_

   refine E.mv rfl rfl <| E.nil <| X.again1 (k + 1) (Sub.cons rfl <| Sub.nil _) rfl ⟨hM, by simp at hk2; omega, fun j h hj => if e : j = k then by subst e; simpa using hC1 else h0 j h (by omega)⟩ (by simp at hk2; omega)
 ·
  have hk2 : k = 2 := by simp at hC0; omega
  have ha := h0 0 (by simp) (by omega)
  have hb := h0 1 (by simp) (by omega)
  refine C.exit <| X.exitT <| X.exitT <| X.outE <| X.next <| C.seq <| C.region <| E.mv rfl rfl <| E.asg rfl rfl <| E.nil <| X.next <| C.ret <| ret1 rfl rfl ?_
  exact ⟨by rw [if_neg (by simpa using ha)]; congr 1; exact (show b = 0 from hb).symm, hM.toExt⟩
theorem cmp_ret (a b : Mk) (w : World) (ha : bdm a) (hb : bdm b) :
  Ret Try.prog 83 #[mkv a, mkv b] w fun v w' => v = i64 (cm2 a b) ∧ Ext w w' := by
 have hM := M.start w
 refine enter Try.func83 rfl (by kernel_rfl) Try.ntmps83 rfl ?_
 refine C.seq <| C.region <| ?_
 refine E.boxM (cs := mkc a) hM rfl rfl rfl ?_
 intro b2 w0 hM
 try dsimp only [Za, Zb, Zc, Zd, repl] at hM
 refine E.boxM (cs := mkc b) hM rfl rfl rfl ?_
 intro b3 w1 hM
 try dsimp only [Za, Zb, Zc, Zd, repl] at hM
 refine E.asg rfl rfl <| E.nil <| X.next <| C.seq <| C.heldE (by kernel_rfl) fun wh2 hwh2 _ => ?_
 have hS := hwh2
 have hM0 := hM
 have hM := M.ofExt hwh2
 refine H.takeV 0 rfl rfl (by kernel_rfl) (by kernel_rfl) (by kernel_rfl) hS (Y.fld (o := 1) (sz := 0) rfl Try.underlying24 rfl rfl (by kernel_rfl)) (fun w' hS => by have hM := hM0.ext hS; exact Y.fld (o := 1) (sz := 0) rfl Try.underlying24 rfl rfl (by kernel_rfl)) rfl ?_
 refine H.takeV 2 rfl rfl (by kernel_rfl) (by kernel_rfl) (by kernel_rfl) hS (Y.fld (o := 1) (sz := 0) rfl Try.underlying24 rfl rfl (by kernel_rfl)) (fun w' hS => by have hM := hM0.ext hS; exact Y.fld (o := 1) (sz := 0) rfl Try.underlying24 rfl rfl (by kernel_rfl)) rfl ?_
 refine H.takeV 5 rfl rfl (by kernel_rfl) (by kernel_rfl) (by kernel_rfl) hS (Y.fld (o := 0) (sz := 0) rfl Try.underlying24 rfl rfl (by kernel_rfl)) (fun w' hS => by have hM := hM0.ext hS; exact Y.fld (o := 0) (sz := 0) rfl Try.underlying24 rfl rfl (by kernel_rfl)) rfl ?_
 refine H.takeV 7 rfl rfl (by kernel_rfl) (by kernel_rfl) (by kernel_rfl) hS (Y.fld (o := 0) (sz := 0) rfl Try.underlying24 rfl rfl (by kernel_rfl)) (fun w' hS => by have hM := hM0.ext hS; exact Y.fld (o := 0) (sz := 0) rfl Try.underlying24 rfl rfl (by kernel_rfl)) rfl ?_
 refine H.takeV 1 rfl rfl (by kernel_rfl) (by kernel_rfl) (by kernel_rfl) hS (Y.load rfl Try.underlying3 rfl ((hM0.ext hS).bcell 0 rfl rfl)) (fun w' hS => by have hM := hM0.ext hS; exact Y.load rfl Try.underlying3 rfl (hM.bcell 0 rfl rfl)) rfl ?_
 refine H.takeV 3 rfl rfl (by kernel_rfl) (by kernel_rfl) (by kernel_rfl) hS (Y.load rfl Try.underlying3 rfl ((hM0.ext hS).bcell 1 rfl rfl)) (fun w' hS => by have hM := hM0.ext hS; exact Y.load rfl Try.underlying3 rfl (hM.bcell 1 rfl rfl)) rfl ?_
 refine H.takeV 6 rfl rfl (by kernel_rfl) (by kernel_rfl) (by kernel_rfl) hS (Y.load rfl Try.underlying3 rfl ((hM0.ext hS).bcell 0 rfl rfl)) (fun w' hS => by have hM := hM0.ext hS; exact Y.load rfl Try.underlying3 rfl (hM.bcell 0 rfl rfl)) rfl ?_
 refine H.takeV 8 rfl rfl (by kernel_rfl) (by kernel_rfl) (by kernel_rfl) hS (Y.load rfl Try.underlying3 rfl ((hM0.ext hS).bcell 1 rfl rfl)) (fun w' hS => by have hM := hM0.ext hS; exact Y.load rfl Try.underlying3 rfl (hM.bcell 1 rfl rfl)) rfl ?_
 refine H.only 4 rfl (by kernel_rfl) ?_
 refine E.call rfl rfl (compare_ret a.y b.y _) ?_
 rintro _ w3 ⟨rfl, x3⟩
 have hM := hM.ext x3
 try dsimp only [Za, Zb, Zc, Zd, repl] at hM
 have hS := hM.toExt
 refine H.back hS ?_
 refine H.only 9 rfl (by kernel_rfl) ?_
 refine E.call rfl rfl (compare_ret a.x b.x _) ?_
 rintro _ w4 ⟨rfl, x4⟩
 have hM := hM.ext x4
 try dsimp only [Za, Zb, Zc, Zd, repl] at hM
 have hS := hM.toExt
 refine H.back hS ?_
 refine H.only 10 rfl (by kernel_rfl) ?_
 refine E.mkM (enc := i64) (e := 3) [cmv a.y b.y, cmv a.x b.x] hM rfl (fun _ => by kernel_rfl) rfl rfl rfl ?_
 intro v15 w5 hM
 try dsimp only [Za, Zb, Zc, Zd, repl] at hM
 have hS := hM.toExt
 refine H.back hS ?_
 refine H.only 11 rfl (by kernel_rfl) ?_
 refine E.call rfl rfl (or_ret v15 _ _ _ (hM.sl 0 rfl)) ?_
 rintro _ w6 ⟨rfl, x6⟩
 have hM := hM.ext x6
 try dsimp only [Za, Zb, Zc, Zd, repl] at hM
 have hS := hM.toExt
 refine H.back hS ?_
 refine H.take 12 rfl rfl (by kernel_rfl) (by kernel_rfl) (by kernel_rfl) hS (fun w' hS => by have hM := hM0.ext hS; exact Y.asg rfl) rfl ?_
 refine H.done (by kernel_rfl) ?_
 have hM := hM0.call hM
 refine X.next <| C.ret <| ret1 rfl rfl ?_
 exact ⟨rfl, hM.toExt⟩
set_option maxHeartbeats 2000000 in
theorem isort_ret (p : Value) (xs : List Mk) (a b : Nat) (w : World) (hs : Sep w [Rg.slF mkc 4 24 p xs]) (hx : ∀ x ∈ xs, bdm x) (ha : a ≤ b) (hb : b ≤ xs.length) (hlen : xs.length ≤ 1000000) :
  Ret Try.prog 109 #[p, i64 a, i64 b, fnv 83 []] w fun v w' => M w (fpU [Rg.slF mkc 4 24 p xs]) w' [Rg.slF mkc 4 24 p (srt key xs a b)] := by
 have hM := M.startS hs
 refine enter Try.func109 rfl (by kernel_rfl) Try.ntmps109 rfl ?_
 refine C.seq <| C.region <| E.mv rfl rfl <| ?_
 refine E.addN (b := 1) rfl rfl (by omega) rfl ?_
 refine E.asg rfl rfl <| E.nil <| X.next <| C.block <| ?_

 refine C.loop1 [(0, _), (1, _), (2, _), (3, _)] rfl (fun (i : Nat) => [(8, i64 i)]) (fun (i : Nat) w' => M w (fpU [Rg.slF mkc 4 24 p xs]) w' [Rg.slF mkc 4 24 p (srt key xs a (min i b))] ∧ a + 1 ≤ i ∧ i ≤ max b (a + 1)) (fun (i : Nat) => b - i) (a + 1) ?_ ?_ ?_
 · exact Sub.cons rfl <| Sub.nil _
 · exact ⟨hM.to (Sym.twoF (by by_cases e : a < b; rw [Nat.min_eq_left (by omega), srt_one key xs (by omega)]; rw [show min (a + 1) b = a by omega, srt_zero]) rfl), by omega, by omega⟩
 rintro i w0 ⟨hM, hi1, hi2⟩
 refine C.seq <| C.seq <| C.region <| E.mv rfl rfl <| E.mv rfl rfl <| E.bin rfl rfl rfl rfl <| E.nil <| X.next <| ?_
 refine C.cond' rfl (fun hC0 => ?_) (fun hC0 => ?_)
 ·
  have hi' : i < xs.length := by omega
  have hai : a ≤ i := by omega
  rw [Nat.min_eq_left (by omega), srt_dat key xs hi' hai] at hM
  have hTl : (xs.take a).length = a := by rw [List.length_take]; omega
  have hSl : (isort key ((xs.drop a).take (i - a))).length = i - a := by rw [isort_len]; simp; omega
  have hUl : (xs.drop (i + 1)).length = xs.length - (i + 1) := by simp
  have hxi := hx xs[i] (List.getElem_mem hi')
  have hSx : ∀ z ∈ (isort key ((xs.drop a).take (i - a))), bdm z := fun z hz => hx z (List.mem_of_mem_drop (List.mem_of_mem_take ((isort_mem _ _ _).1 hz)))
  refine C.skip <| X.next <| C.seq <| C.block <| C.seq <| C.region <| E.mv rfl rfl <| E.asg rfl rfl <| E.nil <| X.next <| C.block <| ?_

  refine C.loop1 [(0, _), (1, _), (2, _), (3, _), (8, _)] rfl (fun (k : Nat) => [(9, i64 ((a + k : Nat) : Int))]) (fun (k : Nat) w' => M w (fpU [Rg.slF mkc 4 24 p xs]) w' [Rg.slF mkc 4 24 p (dat (xs.take a) (isort key ((xs.drop a).take (i - a))) xs[i] (xs.drop (i + 1)) k)] ∧ k ≤ i - a ∧ pos (key xs[i]) ((isort key ((xs.drop a).take (i - a))).map key) (i - a) = pos (key xs[i]) ((isort key ((xs.drop a).take (i - a))).map key) k) (fun (k : Nat) => k) (i - a) ?_ ?_ ?_
  · exact Sub.cons (look_val rfl (by omega)) <| Sub.nil _
  · exact ⟨hM, Nat.le_refl _, rfl⟩
  rintro k w1 ⟨hM, hk, hpos⟩
  refine C.seq <| ?_

  refine C.cut0 [(0, _), (1, _), (2, _), (3, _), (8, _), (9, _)] rfl [(34, .bool (decide (0 < k ∧ key xs[i] < ((isort key ((xs.drop a).take (i - a))).map key).getD (k - 1) 0)))] (fun w' => M w (fpU [Rg.slF mkc 4 24 p xs]) w' [Rg.slF mkc 4 24 p (dat (xs.take a) (isort key ((xs.drop a).take (i - a))) xs[i] (xs.drop (i + 1)) k)]) ?_ ?_
  ·
   refine C.drawnT 14 (by kernel_rfl) (by kernel_rfl) fun wh2 hwh2 => ?_
   have hM := hM.ext hwh2
   refine S.mv rfl rfl <| S.mv rfl rfl <| S.bin rfl rfl rfl rfl <| S.mv rfl rfl <| ?_
   refine S.split 21 rfl (fun g21 => ?_) (fun g21 => ?_)
   ·
    try simp only [Ya, Yb, Yc, Yd, Ye, Yf] at g21
    obtain ⟨m, rfl⟩ : ∃ m, k = m + 1 := ⟨k - 1, by omega⟩
    have hm : m < (isort key ((xs.drop a).take (i - a))).length := by omega
    refine S.on rfl rfl (S.mv rfl rfl ?_)
    refine S.on rfl rfl (S.mv rfl rfl ?_)
    refine S.on rfl rfl (S.mv rfl rfl ?_)
    refine S.on rfl rfl (S.idxF (k := (a + (m + 1))) rfl rfl (hM.slF 0 rfl) rfl (by rw [dat_len _ _ _ _ (by omega)]; omega) (by decide) Try.underlying22 (by kernel_rfl) rfl ?_)
    refine S.on rfl rfl (S.loadA (cs := mkc _) rfl Try.underlying24 rfl (by kernel_rfl) ((hM.slF 0 rfl).all (by rw [dat_len _ _ _ _ (by omega)]; omega)) rfl ?_)
    rw [dat_x _ _ _ _ hm (by omega)]
    refine S.on rfl rfl (S.mv rfl rfl ?_)
    refine S.on rfl rfl (S.mv rfl rfl ?_)
    refine S.on rfl rfl (S.subN (b := 1) rfl rfl (by omega) rfl ?_)
    refine S.on rfl rfl (S.idxF (k := (a + (m + 1)) - 1) rfl rfl (hM.slF 0 rfl) rfl (by rw [dat_len _ _ _ _ (by omega)]; omega) (by decide) Try.underlying22 (by kernel_rfl) rfl ?_)
    refine S.on rfl rfl (S.loadA (cs := mkc _) rfl Try.underlying24 rfl (by kernel_rfl) ((hM.slF 0 rfl).all (by rw [dat_len _ _ _ _ (by omega)]; omega)) rfl ?_)
    rw [dat_y _ _ _ _ hm (by omega)]
    refine S.nil ?_
    refine E.on rfl rfl (E.callv rfl rfl rfl (cmp_ret xs[i] (isort key ((xs.drop a).take (i - a)))[m] _ hxi (hSx _ (List.getElem_mem hm))) ?_)
    rintro _ w3 ⟨rfl, x3⟩
    have hM := hM.ext x3
    have hcl := cm2_lt hxi (hSx _ (List.getElem_mem hm))
    try dsimp only [Za, Zb, Zc, Zd, repl] at hM
    refine E.on rfl rfl (E.bin rfl rfl rfl rfl ?_)

    refine E.pick rfl rfl rfl <| E.nil <| X.join0  (Sub.cons (look_eq rfl (by congr 1; apply decide_eq_decide.2; rw [hcl, Nat.add_sub_cancel, wget hm]; exact ⟨fun h => ⟨by omega, h⟩, fun h => h.2⟩)) <| Sub.nil _) rfl hM
   ·
    try simp only [Ya, Yb, Yc, Yd, Ye, Yf] at g21
    refine S.off rfl rfl rfl rfl <| S.off rfl rfl rfl rfl <| S.off rfl rfl rfl rfl <| S.off rfl rfl rfl rfl <| S.off rfl rfl rfl rfl <| S.off rfl rfl rfl rfl <| S.off rfl rfl rfl rfl <| S.off rfl rfl rfl rfl <| S.off rfl rfl rfl rfl <| S.off rfl rfl rfl rfl <| ?_
    refine S.nil ?_

    refine E.off rfl rfl rfl rfl <| E.off rfl rfl rfl rfl <| E.pick rfl rfl rfl <| E.nil <| X.join0  (Sub.cons (look_eq rfl (by congr 1; symm; apply decide_eq_false; intro h; omega)) <| Sub.nil _) rfl hM
  rintro  w4 hM
  refine C.cond' rfl (fun hC1 => ?_) (fun hC1 => ?_)
  ·
   obtain ⟨m, rfl⟩ : ∃ m, k = m + 1 := ⟨k - 1, by omega⟩
   have hm : m < (isort key ((xs.drop a).take (i - a))).length := by omega
   obtain ⟨_, hlt⟩ := hC1
   rw [Nat.add_sub_cancel, wget hm] at hlt
   refine C.skip <| X.next <| C.seq <| C.block <| C.heldM hM [] (by decide) (by kernel_rfl) fun wh5 hM hS => ?_
   have hR := hM.slF 0 rfl
   refine H.take 0 rfl rfl (by kernel_rfl) (by kernel_rfl) (by kernel_rfl) hS (fun w' hM => Y.mv rfl) rfl ?_
   refine H.take 1 rfl rfl (by kernel_rfl) (by kernel_rfl) (by kernel_rfl) hS (fun w' hM => Y.mv rfl) rfl ?_
   refine H.take 2 rfl rfl (by kernel_rfl) (by kernel_rfl) (by kernel_rfl) hS (fun w' hM => Y.mv rfl) rfl ?_
   refine H.take 3 rfl rfl (by kernel_rfl) (by kernel_rfl) (by kernel_rfl) hS (fun w' hM => Y.mv rfl) rfl ?_
   refine H.take 4 rfl rfl (by kernel_rfl) (by kernel_rfl) (by kernel_rfl) hS (fun w' hM => Y.subN (b := 1) rfl rfl (by omega)) rfl ?_
   refine H.take 5 rfl rfl (by kernel_rfl) (by kernel_rfl) (by kernel_rfl) hS (fun w' hM => Y.mv rfl) rfl ?_
   refine H.take 6 rfl rfl (by kernel_rfl) (by kernel_rfl) (by kernel_rfl) hS (fun w' hM => Y.mv rfl) rfl ?_
   refine H.take 7 rfl rfl (by kernel_rfl) (by kernel_rfl) (by kernel_rfl) hS (fun w' hM => Y.subN (b := 1) rfl rfl (by omega)) rfl ?_
   refine H.takeV 8 rfl rfl (by kernel_rfl) (by kernel_rfl) (by kernel_rfl) hS (Y.idxFW _ ((a + (m + 1)) - 1) rfl rfl hR rfl (by rw [dat_len _ _ _ _ (by omega)]; omega) (by decide) Try.underlying22 (by kernel_rfl)) (fun w' hM => Y.idxFW _ ((a + (m + 1)) - 1) rfl rfl hR rfl (by rw [dat_len _ _ _ _ (by omega)]; omega) (by decide) Try.underlying22 (by kernel_rfl)) rfl ?_
   refine H.take 10 rfl rfl (by kernel_rfl) (by kernel_rfl) (by kernel_rfl) hS (fun w' hM => Y.mv rfl) rfl ?_
   refine H.take 11 rfl rfl (by kernel_rfl) (by kernel_rfl) (by kernel_rfl) hS (fun w' hM => Y.mv rfl) rfl ?_
   refine H.takeV 12 rfl rfl (by kernel_rfl) (by kernel_rfl) (by kernel_rfl) hS (Y.idxFW _ ((a + (m + 1))) rfl rfl hR rfl (by rw [dat_len _ _ _ _ (by omega)]; omega) (by decide) Try.underlying22 (by kernel_rfl)) (fun w' hM => Y.idxFW _ ((a + (m + 1))) rfl rfl hR rfl (by rw [dat_len _ _ _ _ (by omega)]; omega) (by decide) Try.underlying22 (by kernel_rfl)) rfl ?_
   refine H.two 9 13 rfl rfl (by kernel_rfl) ?_ ?_
   ·
    refine E.loadA (cs := mkc _) rfl Try.underlying24 rfl (by kernel_rfl) ((hM.slF 0 rfl).all (by rw [dat_len _ _ _ _ (by omega)]; omega)) rfl ?_
    rw [dat_y _ _ _ _ hm (by omega)]
    have hS := hM.pick [] (by decide)
    refine H.back hS ?_
    refine H.only 13 rfl (by kernel_rfl) ?_
    refine E.loadA (cs := mkc _) rfl Try.underlying24 rfl (by kernel_rfl) ((hM.slF 0 rfl).all (by rw [dat_len _ _ _ _ (by omega)]; omega)) rfl ?_
    rw [dat_x _ _ _ _ hm (by omega)]
    have hS := hM.pick [] (by decide)
    refine H.back hS ?_
    refine H.takeV 14 rfl rfl (by kernel_rfl) (by kernel_rfl) (by kernel_rfl) hS (Y.idxFW _ ((a + (m + 1))) rfl rfl hR rfl (by rw [dat_len _ _ _ _ (by omega)]; omega) (by decide) Try.underlying22 (by kernel_rfl)) (fun w' hM => Y.idxFW _ ((a + (m + 1))) rfl rfl hR rfl (by rw [dat_len _ _ _ _ (by omega)]; omega) (by decide) Try.underlying22 (by kernel_rfl)) rfl ?_
    refine H.only 15 rfl (by kernel_rfl) ?_
    refine E.storeEM (k := (a + (m + 1))) 0 (isort key ((xs.drop a).take (i - a)))[m] hM rfl rfl rfl (by kernel_rfl) rfl (ones rfl <| ones rfl <| ones rfl <| ones rfl <| ones_nil) rfl (by rw [dat_len _ _ _ _ (by omega)]; omega) ?_
    intro w6 hM
    try dsimp only [Za, Zb, Zc, Zd, repl] at hM
    have hS := hM.pick [] (by decide)
    refine H.back hS ?_
    refine H.takeV 16 rfl rfl (by kernel_rfl) (by kernel_rfl) (by kernel_rfl) hS (Y.idxFW _ ((a + (m + 1)) - 1) rfl rfl hR rfl (by rw [dat_len _ _ _ _ (by omega)]; omega) (by decide) Try.underlying22 (by kernel_rfl)) (fun w' hM => Y.idxFW _ ((a + (m + 1)) - 1) rfl rfl hR rfl (by rw [dat_len _ _ _ _ (by omega)]; omega) (by decide) Try.underlying22 (by kernel_rfl)) rfl ?_
    refine H.only 17 rfl (by kernel_rfl) ?_
    refine E.storeEM (k := (a + (m + 1)) - 1) 0 xs[i] hM rfl rfl rfl (by kernel_rfl) rfl (ones rfl <| ones rfl <| ones rfl <| ones rfl <| ones_nil) rfl (by rw [List.length_set]; rw [dat_len _ _ _ _ (by omega)]; omega) ?_
    intro w7 hM
    try dsimp only [Za, Zb, Zc, Zd, repl] at hM
    rw [dat_swap _ _ _ _ hm (by omega) (by omega)] at hM
    have hS := hM.pick [] (by decide)
    refine H.back hS ?_
    refine H.done (by kernel_rfl) ?_
    refine X.outN <| X.next <| C.region <| E.mv rfl rfl <| ?_
    refine E.subN (b := 1) rfl rfl (by omega) rfl ?_

    refine E.asg rfl rfl <| E.nil <| X.again1 m (Sub.cons (look_val rfl (by omega)) <| Sub.nil _) rfl ⟨hM, by omega, by rw [hpos, pos, if_pos (by rw [wget hm]; exact hlt)]⟩ (by omega)
   ·
    refine E.loadA (cs := mkc _) rfl Try.underlying24 rfl (by kernel_rfl) ((hM.slF 0 rfl).all (by rw [dat_len _ _ _ _ (by omega)]; omega)) rfl ?_
    rw [dat_x _ _ _ _ hm (by omega)]
    have hS := hM.pick [] (by decide)
    refine H.back hS ?_
    refine H.only 9 rfl (by kernel_rfl) ?_
    refine E.loadA (cs := mkc _) rfl Try.underlying24 rfl (by kernel_rfl) ((hM.slF 0 rfl).all (by rw [dat_len _ _ _ _ (by omega)]; omega)) rfl ?_
    rw [dat_y _ _ _ _ hm (by omega)]
    have hS := hM.pick [] (by decide)
    refine H.back hS ?_
    refine H.takeV 14 rfl rfl (by kernel_rfl) (by kernel_rfl) (by kernel_rfl) hS (Y.idxFW _ ((a + (m + 1))) rfl rfl hR rfl (by rw [dat_len _ _ _ _ (by omega)]; omega) (by decide) Try.underlying22 (by kernel_rfl)) (fun w' hM => Y.idxFW _ ((a + (m + 1))) rfl rfl hR rfl (by rw [dat_len _ _ _ _ (by omega)]; omega) (by decide) Try.underlying22 (by kernel_rfl)) rfl ?_
    refine H.only 15 rfl (by kernel_rfl) ?_
    refine E.storeEM (k := (a + (m + 1))) 0 (isort key ((xs.drop a).take (i - a)))[m] hM rfl rfl rfl (by kernel_rfl) rfl (ones rfl <| ones rfl <| ones rfl <| ones rfl <| ones_nil) rfl (by rw [dat_len _ _ _ _ (by omega)]; omega) ?_
    intro w8 hM
    try dsimp only [Za, Zb, Zc, Zd, repl] at hM
    have hS := hM.pick [] (by decide)
    refine H.back hS ?_
    refine H.takeV 16 rfl rfl (by kernel_rfl) (by kernel_rfl) (by kernel_rfl) hS (Y.idxFW _ ((a + (m + 1)) - 1) rfl rfl hR rfl (by rw [dat_len _ _ _ _ (by omega)]; omega) (by decide) Try.underlying22 (by kernel_rfl)) (fun w' hM => Y.idxFW _ ((a + (m + 1)) - 1) rfl rfl hR rfl (by rw [dat_len _ _ _ _ (by omega)]; omega) (by decide) Try.underlying22 (by kernel_rfl)) rfl ?_
    refine H.only 17 rfl (by kernel_rfl) ?_
    refine E.storeEM (k := (a + (m + 1)) - 1) 0 xs[i] hM rfl rfl rfl (by kernel_rfl) rfl (ones rfl <| ones rfl <| ones rfl <| ones rfl <| ones_nil) rfl (by rw [List.length_set]; rw [dat_len _ _ _ _ (by omega)]; omega) ?_
    intro w9 hM
    try dsimp only [Za, Zb, Zc, Zd, repl] at hM
    rw [dat_swap _ _ _ _ hm (by omega) (by omega)] at hM
    have hS := hM.pick [] (by decide)
    refine H.back hS ?_
    refine H.done (by kernel_rfl) ?_
    refine X.outN <| X.next <| C.region <| E.mv rfl rfl <| ?_
    refine E.subN (b := 1) rfl rfl (by omega) rfl ?_

    refine E.asg rfl rfl <| E.nil <| X.again1 m (Sub.cons (look_val rfl (by omega)) <| Sub.nil _) rfl ⟨hM, by omega, by rw [hpos, pos, if_pos (by rw [wget hm]; exact hlt)]⟩ (by omega)
  ·
   have hpk : pos (key xs[i]) ((isort key ((xs.drop a).take (i - a))).map key) k = k := by
    cases k with
    | zero => rfl
    | succ m => rw [pos, if_neg]; exact fun h => hC1 ⟨by omega, h⟩
   rw [srt_next key xs hi' hai (hpos.trans hpk)] at hM
   refine C.exit <| X.exitT <| X.exitT <| X.outE <| X.outN <| X.next <| C.region <| E.mv rfl rfl <| ?_
   refine E.addN (b := 1) rfl rfl (by omega) rfl ?_

   refine E.asg rfl rfl <| E.nil <| X.again1 (i + 1) (Sub.cons rfl <| Sub.nil _) rfl ⟨hM.to (Sym.twoF (by rw [Nat.min_eq_left (by omega)]) rfl), by omega, by omega⟩ (by omega)
 ·
  refine C.exit <| X.exitT <| X.exitT <| X.outE <| end0 rfl ?_
  exact hM.to (Sym.twoF (by by_cases e : a < b; rw [Nat.min_eq_right (by omega)]; rw [show min i b = a by omega, show b = a by omega]) rfl)
end Go.Proofs.Ytbinlkobmlebpaa
