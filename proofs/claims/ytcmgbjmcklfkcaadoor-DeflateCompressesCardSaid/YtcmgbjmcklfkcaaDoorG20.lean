/- Texts of the claim, laid together: Pf19, Pf20, Pf21, Pf22, Pf23. -/
import Derived.Test.YtcmgbjmcklfkcaaDoorG19
/- prefix: stable sorting, plain. -/
namespace Go.Proofs.YtcmgbjmcklfkcaaDoor
set_option linter.unusedSimpArgs false
set_option linter.unusedVariables false
open Go.RowKit Sym

section
variable {α : Type} {g : α → Nat}
theorem mrg_split : ∀ (X1 Y1 X2 Y2 : List α), (∀ x ∈ X1, ∀ y ∈ Y2, g x ≤ g y) → (∀ y ∈ Y1, ∀ x ∈ X2, g y < g x) → mrg g (X1 ++ X2) (Y1 ++ Y2) = mrg g X1 Y1 ++ mrg g X2 Y2
  | [], [], X2, Y2, _, _ => by rw [mrg]; rfl
  | [], y :: Y1, X2, Y2, h1, h2 => by
    have ih := mrg_split [] Y1 X2 Y2 (fun x hx => by cases hx) (fun y hy => h2 y (by simp [hy]))
    rw [mrg] at ih ⊢
    cases X2 with
    | nil => simp only [List.nil_append, mrg]
    | cons x X2 =>
      have := h2 y (by simp) x (by simp)
      simp only [List.nil_append, List.cons_append] at ih ⊢
      rw [mrg_gt (by omega), ih]
  | x :: X1, [], X2, Y2, h1, h2 => by
    have ih := mrg_split X1 [] X2 Y2 (fun x hx => h1 x (by simp [hx])) (fun y hy => by cases hy)
    rw [mrg_nil] at ih ⊢
    cases Y2 with
    | nil => simp only [List.append_nil, mrg_nil]
    | cons y Y2 =>
      have := h1 x (by simp) y (by simp)
      simp only [List.nil_append, List.cons_append] at ih ⊢
      rw [mrg_le this, ih]
  | x :: X1, y :: Y1, X2, Y2, h1, h2 => by
    simp only [List.cons_append]
    by_cases h : g x ≤ g y
    · have ih := mrg_split X1 (y :: Y1) X2 Y2 (fun x hx => h1 x (by simp [hx])) h2
      simp only [List.cons_append] at ih
      rw [mrg_le h, mrg_le h, ih]; rfl
    · have ih := mrg_split (x :: X1) Y1 X2 Y2 h1 (fun y hy => h2 y (by simp [hy]))
      simp only [List.cons_append] at ih
      rw [mrg_gt h, mrg_gt h, ih]; rfl
termination_by X1 Y1 => X1.length + Y1.length
/-- by weight -/
def Srt (g : α → Nat) (l : List α) : Prop := l.Pairwise fun a b => g a ≤ g b
theorem pos_split {w : Nat} : ∀ (L2 : List Nat) (L1 : List Nat), (∀ z ∈ L1, z ≤ w) → (∀ z ∈ L2, w < z) → pos w (L1 ++ L2) (L1.length + L2.length) = L1.length := by
  intro L2 L1 h1 h2
  have key : ∀ k, k ≤ L2.length → pos w (L1 ++ L2) (L1.length + k) = L1.length := by
    intro k
    induction k with
    | zero =>
      intro _
      rw [Nat.add_zero]
      rcases Nat.eq_zero_or_pos L1.length with h | h
      · rw [h]; rfl
      · obtain ⟨m, hm⟩ : ∃ m, L1.length = m + 1 := ⟨L1.length - 1, by omega⟩
        have hg : (L1 ++ L2).getD m 0 = L1[m] := by rw [List.getD_eq_getElem?_getD, List.getElem?_append_left (by omega), List.getElem?_eq_getElem (by omega)]; rfl
        have := h1 L1[m] (List.getElem_mem _)
        rw [hm, pos, hg, if_neg (by omega)]
    | succ k ih =>
      intro hk
      have hg : (L1 ++ L2).getD (L1.length + k) 0 = L2[k] := by rw [List.getD_eq_getElem?_getD, List.getElem?_append_right (by omega), Nat.add_sub_cancel_left, List.getElem?_eq_getElem (by omega)]; rfl
      have := h2 L2[k] (List.getElem_mem _)
      rw [← Nat.add_assoc, pos, hg, if_pos this, ih (by omega)]
  exact key _ (Nat.le_refl _)
theorem ins_split {y : α} {L1 L2 : List α} (h1 : ∀ z ∈ L1, g z ≤ g y) (h2 : ∀ z ∈ L2, g y < g z) : ins g y (L1 ++ L2) = L1 ++ y :: L2 := by
  unfold ins
  have hp := pos_split (w := g y) (L2.map g) (L1.map g) (fun z hz => by obtain ⟨a, ha, rfl⟩ := List.mem_map.1 hz; exact h1 a ha) (fun z hz => by obtain ⟨a, ha, rfl⟩ := List.mem_map.1 hz; exact h2 a ha)
  rw [List.length_map, List.length_map] at hp
  rw [List.map_append, List.length_append, hp, List.take_left, List.drop_left]
theorem srt_cut {l : List α} (h : Srt g l) (w : Nat) : ∃ l1 l2, l = l1 ++ l2 ∧ (∀ z ∈ l1, g z ≤ w) ∧ ∀ z ∈ l2, w < g z := by
  induction l with
  | nil => exact ⟨[], [], rfl, by simp, by simp⟩
  | cons a l ih =>
    have h' := List.pairwise_cons.1 h
    by_cases ha : g a ≤ w
    · obtain ⟨l1, l2, e, h1, h2⟩ := ih h'.2
      refine ⟨a :: l1, l2, by rw [e]; rfl, fun z hz => ?_, h2⟩
      rcases List.mem_cons.1 hz with rfl | hz
      · exact ha
      · exact h1 z hz
    · refine ⟨[], a :: l, rfl, by simp, fun z hz => ?_⟩
      rcases List.mem_cons.1 hz with rfl | hz
      · omega
      · have := h'.1 z hz; omega
theorem ins_srt {y : α} {l : List α} (h : Srt g l) : Srt g (ins g y l) := by
  obtain ⟨l1, l2, rfl, h1, h2⟩ := srt_cut h (g y)
  rw [ins_split h1 h2]
  have hp := List.pairwise_append.1 h
  refine List.pairwise_append.2 ⟨hp.1, List.pairwise_cons.2 ⟨fun z hz => Nat.le_of_lt (h2 z hz), hp.2.1⟩, fun a ha b hb => ?_⟩
  rcases List.mem_cons.1 hb with rfl | hb
  · exact h1 a ha
  · exact hp.2.2 a ha b hb
theorem isort_srt : ∀ (n : Nat) (xs : List α), xs.length = n → Srt g (isort g xs)
  | 0, [], _ => List.Pairwise.nil
  | n + 1, xs, h => by
    obtain ⟨ys, x, rfl⟩ : ∃ ys x, xs = ys ++ [x] := ⟨xs.dropLast, xs.getLast (by intro e; subst e; simp at h), (List.dropLast_concat_getLast _).symm⟩
    rw [isort_snoc]
    exact ins_srt (isort_srt n ys (by simp at h; exact h))
theorem ins_mrg {X Y : List α} (hX : Srt g X) (hY : Srt g Y) (y : α) : ins g y (mrg g X Y) = mrg g X (ins g y Y) := by
  obtain ⟨X1, X2, rfl, a1, a2⟩ := srt_cut hX (g y)
  obtain ⟨Y1, Y2, rfl, b1, b2⟩ := srt_cut hY (g y)
  have c1 : ∀ x ∈ X1, ∀ z ∈ Y2, g x ≤ g z := fun x hx z hz => by have := a1 x hx; have := b2 z hz; omega
  have c2 : ∀ z ∈ Y1, ∀ x ∈ X2, g z < g x := fun z hz x hx => by have := b1 z hz; have := a2 x hx; omega
  rw [mrg_split X1 Y1 X2 Y2 c1 c2, ins_split b1 b2, ins_split]
  · have e : Y1 ++ y :: Y2 = (Y1 ++ [y]) ++ Y2 := by simp
    rw [e, mrg_split X1 (Y1 ++ [y]) X2 Y2 c1 (fun z hz x hx => by
      rcases List.mem_append.1 hz with h | h
      · exact c2 z h x hx
      · rw [List.mem_singleton] at h; subst h; exact a2 x hx)]
    have := mrg_split X1 Y1 [] [y] (fun x hx z hz => by rw [List.mem_singleton] at hz; subst hz; exact a1 x hx) (fun z hz x hx => by cases hx)
    rw [List.append_nil, mrg] at this
    rw [this]; simp
  · intro z hz
    rcases (mrg_mem _ _ _ _).1 hz with h | h
    · exact a1 z h
    · exact b1 z h
  · intro z hz
    rcases (mrg_mem _ _ _ _).1 hz with h | h
    · exact a2 z h
    · exact b2 z h
/-- sorted runs, merged -/
theorem isort_app (xs : List α) : ∀ (n : Nat) (ys : List α), ys.length = n → isort g (xs ++ ys) = mrg g (isort g xs) (isort g ys)
  | 0, [], _ => by rw [List.append_nil]; exact (mrg_nil g _).symm
  | n + 1, ys, h => by
    obtain ⟨zs, y, rfl⟩ : ∃ zs y, ys = zs ++ [y] := ⟨ys.dropLast, ys.getLast (by intro e; subst e; simp at h), (List.dropLast_concat_getLast _).symm⟩
    rw [← List.append_assoc, isort_snoc, isort_snoc, isort_app xs n zs (by simp at h; exact h)]
    exact ins_mrg (isort_srt _ _ rfl) (isort_srt _ _ rfl) y
/-- the chunks of s, each sorted -/
def chkF (g : α → Nat) (s : Nat) : Nat → List α → List α
  | 0, xs => isort g xs
  | f + 1, xs => if xs.length ≤ s then isort g xs else isort g (xs.take s) ++ chkF g s f (xs.drop s)
def chk (g : α → Nat) (s : Nat) (xs : List α) : List α := chkF g s xs.length xs
theorem chkF_fuel {s : Nat} (hs : 0 < s) : ∀ (f f' : Nat) (xs : List α), xs.length ≤ f → xs.length ≤ f' → chkF g s f xs = chkF g s f' xs
  | 0, 0, xs, _, _ => rfl
  | 0, f' + 1, xs, h, _ => by
    have : xs.length = 0 := by omega
    rw [chkF, chkF, if_pos (by omega)]
  | f + 1, 0, xs, _, h => by
    have : xs.length = 0 := by omega
    rw [chkF, chkF, if_pos (by omega)]
  | f + 1, f' + 1, xs, h, h' => by
    rw [chkF, chkF]
    by_cases c : xs.length ≤ s
    · rw [if_pos c, if_pos c]
    · rw [if_neg c, if_neg c, chkF_fuel hs f f' (xs.drop s) (by simp; omega) (by simp; omega)]
theorem chk_small {s : Nat} {xs : List α} (h : xs.length ≤ s) : chk g s xs = isort g xs := by
  unfold chk
  cases hl : xs.length with
  | zero => rw [chkF]
  | succ n => rw [chkF, if_pos h]
theorem chk_step {s : Nat} {xs : List α} (hs : 0 < s) (h : s ≤ xs.length) : chk g s xs = isort g (xs.take s) ++ chk g s (xs.drop s) := by
  by_cases e : xs.length = s
  · rw [chk_small (by omega), List.take_of_length_le (by omega), List.drop_of_length_le (by omega)]
    show _ = _ ++ isort g []
    exact (List.append_nil _).symm
  · unfold chk
    obtain ⟨n, hn⟩ : ∃ n, xs.length = n + 1 := ⟨xs.length - 1, by omega⟩
    rw [hn, chkF, if_neg (by omega)]
    congr 1
    exact chkF_fuel hs _ _ _ (by simp; omega) (Nat.le_refl _)
theorem chk_len {s : Nat} (hs : 0 < s) : ∀ (n : Nat) (xs : List α), xs.length ≤ n → (chk g s xs).length = xs.length
  | 0, xs, h => by rw [chk_small (by omega), isort_len]
  | n + 1, xs, h => by
    by_cases c : xs.length ≤ s
    · rw [chk_small c, isort_len]
    · rw [chk_step hs (by omega), List.length_append, isort_len, chk_len hs n (xs.drop s) (by simp; omega)]; simp; omega
theorem chk_mem {s : Nat} (hs : 0 < s) (z : α) : ∀ (n : Nat) (xs : List α), xs.length ≤ n → (z ∈ chk g s xs → z ∈ xs)
  | 0, xs, h => fun hz => by rw [chk_small (by omega)] at hz; exact (isort_mem _ _ _).1 hz
  | n + 1, xs, h => fun hz => by
    by_cases c : xs.length ≤ s
    · rw [chk_small c] at hz; exact (isort_mem _ _ _).1 hz
    · rw [chk_step hs (by omega)] at hz
      rcases List.mem_append.1 hz with h1 | h1
      · exact List.mem_of_mem_take ((isort_mem _ _ _).1 h1)
      · exact List.mem_of_mem_drop (chk_mem hs z n (xs.drop s) (by simp; omega) h1)
end
end Go.Proofs.YtcmgbjmcklfkcaaDoor

/- prefix: ranges swapped; rotation. -/
namespace Go.Proofs.YtcmgbjmcklfkcaaDoor
set_option linter.unusedSimpArgs false
set_option linter.unusedVariables false
open Go.RowKit Sym

/-- two ranges, of which i elements are swapped -/
def swp {α : Type} (A X B Y C : List α) (i : Nat) : List α := A ++ (Y.take i ++ X.drop i) ++ B ++ (X.take i ++ Y.drop i) ++ C
theorem swp_zero {α : Type} (A X B Y C : List α) : swp A X B Y C 0 = A ++ X ++ B ++ Y ++ C := by simp [swp]
theorem swp_end {α : Type} (A X B Y C : List α) (h : X.length = Y.length) : swp A X B Y C X.length = A ++ Y ++ B ++ X ++ C := by
  unfold swp
  rw [List.take_of_length_le (show Y.length ≤ X.length by omega), List.drop_of_length_le (Nat.le_refl _), List.take_of_length_le (Nat.le_refl _), List.drop_of_length_le (show Y.length ≤ X.length by omega)]; simp
theorem swp_len {α : Type} (A X B Y C : List α) (h : X.length = Y.length) {i : Nat} (hi : i ≤ X.length) : (swp A X B Y C i).length = A.length + X.length + B.length + Y.length + C.length := by unfold swp; simp; omega
theorem swp_form {α : Type} {A X B Y C : List α} (h : X.length = Y.length) {i : Nat} (hi : i < X.length) : swp A X B Y C i = (A ++ Y.take i) ++ X[i] :: ((X.drop (i + 1) ++ B ++ X.take i) ++ Y[i] :: (Y.drop (i + 1) ++ C)) := by
  unfold swp
  rw [List.drop_eq_getElem_cons hi, List.drop_eq_getElem_cons (show i < Y.length by omega)]
  simp only [List.append_assoc, List.cons_append]
theorem swp_next {α : Type} {A X B Y C : List α} (h : X.length = Y.length) {i : Nat} (hi : i < X.length) : swp A X B Y C (i + 1) = (A ++ Y.take i) ++ Y[i] :: ((X.drop (i + 1) ++ B ++ X.take i) ++ X[i] :: (Y.drop (i + 1) ++ C)) := by
  unfold swp
  rw [← List.take_append_getElem hi, ← List.take_append_getElem (show i < Y.length by omega)]
  simp only [List.append_assoc, List.cons_append, List.nil_append]
theorem two_x {α : Type} (P Q R : List α) (x y : α) {j : Nat} (e : j = P.length) (hj : j < (P ++ x :: (Q ++ y :: R)).length) : (P ++ x :: (Q ++ y :: R))[j] = x := by
  subst e; simp
theorem two_y {α : Type} (P Q R : List α) (x y : α) {j : Nat} (e : j = P.length + 1 + Q.length) (hj : j < (P ++ x :: (Q ++ y :: R)).length) : (P ++ x :: (Q ++ y :: R))[j] = y := by
  have : (P ++ x :: (Q ++ y :: R))[j]? = some y := by
    rw [List.getElem?_append_right (by omega), e, show P.length + 1 + Q.length - P.length = Q.length + 1 by omega, List.getElem?_cons_succ, List.getElem?_append_right (Nat.le_refl _), Nat.sub_self]; rfl
  rw [List.getElem?_eq_getElem hj, Option.some.injEq] at this; exact this
theorem two_set {α : Type} (P Q R : List α) (x y : α) {i j : Nat} (e : i = P.length) (e2 : j = P.length + 1 + Q.length) : ((P ++ x :: (Q ++ y :: R)).set i y).set j x = P ++ y :: (Q ++ x :: R) := by
  subst e e2
  rw [List.set_append_right _ _ (Nat.le_refl _), Nat.sub_self, List.set_cons_zero, List.set_append_right _ _ (by omega), show P.length + 1 + Q.length - P.length = Q.length + 1 by omega, List.set_cons_succ, List.set_append_right _ _ (Nat.le_refl _), Nat.sub_self]; rfl
theorem swp_x {α : Type} {A X B Y C : List α} (h : X.length = Y.length) {i j : Nat} (hi : i < X.length) (e : j = A.length + i) (hj : j < (swp A X B Y C i).length) : (swp A X B Y C i)[j] = X[i] := by
  have hf := swp_form (A := A) (B := B) (C := C) h hi
  have := two_x (A ++ Y.take i) (X.drop (i + 1) ++ B ++ X.take i) (Y.drop (i + 1) ++ C) X[i] Y[i] (j := j) (by simp; omega) (by rw [← hf]; exact hj)
  rw [← this]; congr 1
theorem swp_y {α : Type} {A X B Y C : List α} (h : X.length = Y.length) {i j : Nat} (hi : i < X.length) (e : j = A.length + X.length + B.length + i) (hj : j < (swp A X B Y C i).length) : (swp A X B Y C i)[j] = Y[i] := by
  have hf := swp_form (A := A) (B := B) (C := C) h hi
  have := two_y (A ++ Y.take i) (X.drop (i + 1) ++ B ++ X.take i) (Y.drop (i + 1) ++ C) X[i] Y[i] (j := j) (by simp; omega) (by rw [← hf]; exact hj)
  rw [← this]; congr 1
theorem swp_step {α : Type} {A X B Y C : List α} (h : X.length = Y.length) {i j k : Nat} (hi : i < X.length) (e : j = A.length + i) (e2 : k = A.length + X.length + B.length + i) : ((swp A X B Y C i).set j Y[i]).set k X[i] = swp A X B Y C (i + 1) := by
  rw [swp_form h hi, swp_next h hi]
  exact two_set _ _ _ _ _ (by simp; omega) (by simp; omega)
set_option maxHeartbeats 1000000 in
theorem swap_ret (p : Value) (la lx lb ly lc : List It) (a b n : Nat) (fv : Value) (P : List It) (w : World) (hs : Sep w [Rg.sl ip 112 p (la ++ lx ++ lb ++ ly ++ lc), Rg.pool P P]) (ha : a = la.length) (hb : b = la.length + lx.length + lb.length) (hn : n = lx.length) (hXY : lx.length = ly.length) (hlen : (la ++ lx ++ lb ++ ly ++ lc).length ≤ 1000000) :
    Ret Tryd.prog 106 #[p, i64 a, i64 b, i64 n, fv] w fun v w' => M w (fpU [Rg.sl ip 112 p (la ++ lx ++ lb ++ ly ++ lc), Rg.pool P P]) w' [Rg.sl ip 112 p (la ++ ly ++ lb ++ lx ++ lc), Rg.pool P P] := by
  have hM := M.startS hs
  refine enter Tryd.func106 rfl (by kernel_rfl) Tryd.ntmps106 rfl ?_
  refine C.seq <| C.region <| E.asg rfl rfl <| E.nil <| X.next <| C.block <| ?_
  subst ha hb hn
  simp only [List.length_append] at hlen
  rw [← swp_zero] at hM

  refine C.loop1 [(0, _), (1, _), (2, _), (3, _)] rfl (fun (i : Nat) => [(10, i64 i)]) (fun (i : Nat) w' => M w (fpU [Rg.sl ip 112 p (la ++ lx ++ lb ++ ly ++ lc), Rg.pool P P]) w' [Rg.sl ip 112 p (swp la lx lb ly lc i), Rg.pool P P] ∧ i ≤ lx.length) (fun (i : Nat) => lx.length - i) 0 ?_ ?_ ?_
  · exact Sub.cons rfl <| Sub.nil _
  · exact ⟨hM, Nat.zero_le _⟩
  rintro i w0 ⟨hM, hi⟩
  refine C.seq <| C.seq <| C.region <| E.mv rfl rfl <| E.mv rfl rfl <| E.bin rfl rfl rfl rfl <| E.nil <| X.next <| ?_
  refine C.cond' rfl (fun hC0 => ?_) (fun hC0 => ?_)
  ·
    have hi' : i < lx.length := by omega
    refine C.skip <| X.next <| C.seq <| C.block <| C.heldM hM [] (by decide) (by kernel_rfl) fun wh1 hM hS => ?_
    have hR := hM.sl 0 rfl
    refine H.take 0 rfl rfl (by kernel_rfl) (by kernel_rfl) (by kernel_rfl) hS (fun w' hM => Y.mv rfl) rfl ?_
    refine H.take 1 rfl rfl (by kernel_rfl) (by kernel_rfl) (by kernel_rfl) hS (fun w' hM => Y.mv rfl) rfl ?_
    refine H.take 2 rfl rfl (by kernel_rfl) (by kernel_rfl) (by kernel_rfl) hS (fun w' hM => Y.mv rfl) rfl ?_
    refine H.take 3 rfl rfl (by kernel_rfl) (by kernel_rfl) (by kernel_rfl) hS (fun w' hM => Y.addN rfl rfl (by omega)) rfl ?_
    refine H.take 4 rfl rfl (by kernel_rfl) (by kernel_rfl) (by kernel_rfl) hS (fun w' hM => Y.mv rfl) rfl ?_
    refine H.take 5 rfl rfl (by kernel_rfl) (by kernel_rfl) (by kernel_rfl) hS (fun w' hM => Y.mv rfl) rfl ?_
    refine H.take 6 rfl rfl (by kernel_rfl) (by kernel_rfl) (by kernel_rfl) hS (fun w' hM => Y.mv rfl) rfl ?_
    refine H.take 7 rfl rfl (by kernel_rfl) (by kernel_rfl) (by kernel_rfl) hS (fun w' hM => Y.addN rfl rfl (by omega)) rfl ?_
    refine H.take 8 rfl rfl (by kernel_rfl) (by kernel_rfl) (by kernel_rfl) hS (fun w' hM => Y.mv rfl) rfl ?_
    refine H.take 9 rfl rfl (by kernel_rfl) (by kernel_rfl) (by kernel_rfl) hS (fun w' hM => Y.mv rfl) rfl ?_
    refine H.take 10 rfl rfl (by kernel_rfl) (by kernel_rfl) (by kernel_rfl) hS (fun w' hM => Y.mv rfl) rfl ?_
    refine H.take 11 rfl rfl (by kernel_rfl) (by kernel_rfl) (by kernel_rfl) hS (fun w' hM => Y.addN rfl rfl (by omega)) rfl ?_
    refine H.takeV 12 rfl rfl (by kernel_rfl) (by kernel_rfl) (by kernel_rfl) hS (Y.idxW _ ((la.length + lx.length + lb.length + i)) rfl rfl hR rfl (by rw [swp_len la lx lb ly lc hXY (by omega)]; omega) Tryd.underlying110 (by kernel_rfl)) (fun w' hM => Y.idxW _ ((la.length + lx.length + lb.length + i)) rfl rfl hR rfl (by rw [swp_len la lx lb ly lc hXY (by omega)]; omega) Tryd.underlying110 (by kernel_rfl)) rfl ?_
    refine H.take 14 rfl rfl (by kernel_rfl) (by kernel_rfl) (by kernel_rfl) hS (fun w' hM => Y.mv rfl) rfl ?_
    refine H.take 15 rfl rfl (by kernel_rfl) (by kernel_rfl) (by kernel_rfl) hS (fun w' hM => Y.mv rfl) rfl ?_
    refine H.take 16 rfl rfl (by kernel_rfl) (by kernel_rfl) (by kernel_rfl) hS (fun w' hM => Y.mv rfl) rfl ?_
    refine H.take 17 rfl rfl (by kernel_rfl) (by kernel_rfl) (by kernel_rfl) hS (fun w' hM => Y.addN rfl rfl (by omega)) rfl ?_
    refine H.takeV 18 rfl rfl (by kernel_rfl) (by kernel_rfl) (by kernel_rfl) hS (Y.idxW _ ((la.length + i)) rfl rfl hR rfl (by rw [swp_len la lx lb ly lc hXY (by omega)]; omega) Tryd.underlying110 (by kernel_rfl)) (fun w' hM => Y.idxW _ ((la.length + i)) rfl rfl hR rfl (by rw [swp_len la lx lb ly lc hXY (by omega)]; omega) Tryd.underlying110 (by kernel_rfl)) rfl ?_
    refine H.two 13 19 rfl rfl (by kernel_rfl) ?_ ?_
    ·
      refine E.load rfl Tryd.underlying112 rfl ((hM.sl 0 rfl).cell (by rw [swp_len la lx lb ly lc hXY (by omega)]; omega)) rfl ?_
      rw [swp_y hXY hi' rfl]
      have hS := hM.pick [] (by decide)
      refine H.back hS ?_
      refine H.only 19 rfl (by kernel_rfl) ?_
      refine E.load rfl Tryd.underlying112 rfl ((hM.sl 0 rfl).cell (by rw [swp_len la lx lb ly lc hXY (by omega)]; omega)) rfl ?_
      rw [swp_x hXY hi' rfl]
      have hS := hM.pick [] (by decide)
      refine H.back hS ?_
      refine H.takeV 20 rfl rfl (by kernel_rfl) (by kernel_rfl) (by kernel_rfl) hS (Y.idxW _ ((la.length + i)) rfl rfl hR rfl (by rw [swp_len la lx lb ly lc hXY (by omega)]; omega) Tryd.underlying110 (by kernel_rfl)) (fun w' hM => Y.idxW _ ((la.length + i)) rfl rfl hR rfl (by rw [swp_len la lx lb ly lc hXY (by omega)]; omega) Tryd.underlying110 (by kernel_rfl)) rfl ?_
      refine H.only 21 rfl (by kernel_rfl) ?_
      refine E.storeL (j := (la.length + i)) 0 ly[i] hM rfl rfl rfl (by kernel_rfl) rfl rfl (by rw [swp_len la lx lb ly lc hXY (by omega)]; omega) ?_
      intro w2 hM
      try dsimp only [List.nil_append, List.cons_append, List.set_cons_zero, List.set_cons_succ, repl] at hM
      have hS := hM.pick [] (by decide)
      refine H.back hS ?_
      refine H.takeV 22 rfl rfl (by kernel_rfl) (by kernel_rfl) (by kernel_rfl) hS (Y.idxW _ ((la.length + lx.length + lb.length + i)) rfl rfl hR rfl (by rw [swp_len la lx lb ly lc hXY (by omega)]; omega) Tryd.underlying110 (by kernel_rfl)) (fun w' hM => Y.idxW _ ((la.length + lx.length + lb.length + i)) rfl rfl hR rfl (by rw [swp_len la lx lb ly lc hXY (by omega)]; omega) Tryd.underlying110 (by kernel_rfl)) rfl ?_
      refine H.only 23 rfl (by kernel_rfl) ?_
      refine E.storeL (j := (la.length + lx.length + lb.length + i)) 0 lx[i] hM rfl rfl rfl (by kernel_rfl) rfl rfl (by rw [List.length_set]; rw [swp_len la lx lb ly lc hXY (by omega)]; omega) ?_
      intro w3 hM
      try dsimp only [List.nil_append, List.cons_append, List.set_cons_zero, List.set_cons_succ, repl] at hM
      rw [swp_step hXY hi' rfl rfl] at hM
      have hS := hM.pick [] (by decide)
      refine H.back hS ?_
      refine H.done (by kernel_rfl) ?_
      refine X.outN <| X.next <| C.region <| E.mv rfl rfl <| ?_
      refine E.addN (b := 1) rfl rfl (by omega) rfl ?_

      refine E.asg rfl rfl <| E.nil <| X.again1 (i + 1) (Sub.cons rfl <| Sub.nil _) rfl ⟨hM, by omega⟩ (by omega)
    ·
      refine E.load rfl Tryd.underlying112 rfl ((hM.sl 0 rfl).cell (by rw [swp_len la lx lb ly lc hXY (by omega)]; omega)) rfl ?_
      rw [swp_x hXY hi' rfl]
      have hS := hM.pick [] (by decide)
      refine H.back hS ?_
      refine H.only 13 rfl (by kernel_rfl) ?_
      refine E.load rfl Tryd.underlying112 rfl ((hM.sl 0 rfl).cell (by rw [swp_len la lx lb ly lc hXY (by omega)]; omega)) rfl ?_
      rw [swp_y hXY hi' rfl]
      have hS := hM.pick [] (by decide)
      refine H.back hS ?_
      refine H.takeV 20 rfl rfl (by kernel_rfl) (by kernel_rfl) (by kernel_rfl) hS (Y.idxW _ ((la.length + i)) rfl rfl hR rfl (by rw [swp_len la lx lb ly lc hXY (by omega)]; omega) Tryd.underlying110 (by kernel_rfl)) (fun w' hM => Y.idxW _ ((la.length + i)) rfl rfl hR rfl (by rw [swp_len la lx lb ly lc hXY (by omega)]; omega) Tryd.underlying110 (by kernel_rfl)) rfl ?_
      refine H.only 21 rfl (by kernel_rfl) ?_
      refine E.storeL (j := (la.length + i)) 0 ly[i] hM rfl rfl rfl (by kernel_rfl) rfl rfl (by rw [swp_len la lx lb ly lc hXY (by omega)]; omega) ?_
      intro w4 hM
      try dsimp only [List.nil_append, List.cons_append, List.set_cons_zero, List.set_cons_succ, repl] at hM
      have hS := hM.pick [] (by decide)
      refine H.back hS ?_
      refine H.takeV 22 rfl rfl (by kernel_rfl) (by kernel_rfl) (by kernel_rfl) hS (Y.idxW _ ((la.length + lx.length + lb.length + i)) rfl rfl hR rfl (by rw [swp_len la lx lb ly lc hXY (by omega)]; omega) Tryd.underlying110 (by kernel_rfl)) (fun w' hM => Y.idxW _ ((la.length + lx.length + lb.length + i)) rfl rfl hR rfl (by rw [swp_len la lx lb ly lc hXY (by omega)]; omega) Tryd.underlying110 (by kernel_rfl)) rfl ?_
      refine H.only 23 rfl (by kernel_rfl) ?_
      refine E.storeL (j := (la.length + lx.length + lb.length + i)) 0 lx[i] hM rfl rfl rfl (by kernel_rfl) rfl rfl (by rw [List.length_set]; rw [swp_len la lx lb ly lc hXY (by omega)]; omega) ?_
      intro w5 hM
      try dsimp only [List.nil_append, List.cons_append, List.set_cons_zero, List.set_cons_succ, repl] at hM
      rw [swp_step hXY hi' rfl rfl] at hM
      have hS := hM.pick [] (by decide)
      refine H.back hS ?_
      refine H.done (by kernel_rfl) ?_
      refine X.outN <| X.next <| C.region <| E.mv rfl rfl <| ?_
      refine E.addN (b := 1) rfl rfl (by omega) rfl ?_

      refine E.asg rfl rfl <| E.nil <| X.again1 (i + 1) (Sub.cons rfl <| Sub.nil _) rfl ⟨hM, by omega⟩ (by omega)
  ·
    obtain rfl : i = lx.length := by omega
    rw [swp_end la lx lb ly lc hXY] at hM
    refine C.exit <| X.exitT <| X.exitT <| X.outE <| end0 rfl ?_
    exact hM

end Go.Proofs.YtcmgbjmcklfkcaaDoor

/- prefix: rotation. -/
namespace Go.Proofs.YtcmgbjmcklfkcaaDoor
set_option linter.unusedSimpArgs false
set_option linter.unusedVariables false
open Go.RowKit Sym

theorem rot_u {α : Type} (qa qu qv qc : List α) (j : Nat) : qa ++ qu ++ qv ++ qc = qa ++ qu.take j ++ qu.drop j ++ qv ++ qc := by rw [List.append_assoc qa (qu.take j), List.take_append_drop]
theorem rot_v {α : Type} (qa qu qv qc : List α) (j : Nat) : qa ++ qu ++ qv ++ qc = qa ++ qu ++ qv.take j ++ qv.drop j ++ qc := by rw [List.append_assoc (qa ++ qu) (qv.take j), List.take_append_drop]
set_option maxHeartbeats 1000000 in
theorem rotate_ret (p : Value) (la lu lv lc : List It) (a m b : Nat) (fv : Value) (P : List It) (w : World) (hs : Sep w [Rg.sl ip 112 p (la ++ lu ++ lv ++ lc), Rg.pool P P]) (ha : a = la.length) (hm : m = la.length + lu.length) (hb : b = m + lv.length) (hu : 0 < lu.length) (hv : 0 < lv.length) (hlen : (la ++ lu ++ lv ++ lc).length ≤ 1000000) :
    Ret Tryd.prog 103 #[p, i64 a, i64 m, i64 b, fv] w fun v w' => M w (fpU [Rg.sl ip 112 p (la ++ lu ++ lv ++ lc), Rg.pool P P]) w' [Rg.sl ip 112 p (la ++ lv ++ lu ++ lc), Rg.pool P P] := by
  have hM := M.startS hs
  refine enter Tryd.func103 rfl (by kernel_rfl) Tryd.ntmps103 rfl ?_
  refine C.seq <| C.region <| E.mv rfl rfl <| E.mv rfl rfl <| ?_
  simp only [List.length_append] at hlen
  refine E.subN rfl rfl (by omega) rfl ?_
  refine E.asg rfl rfl <| E.nil <| X.next <| C.seq <| C.region <| E.mv rfl rfl <| E.mv rfl rfl <| ?_
  refine E.subN rfl rfl (by omega) rfl ?_
  refine E.asg rfl rfl <| E.nil <| X.next <| C.seq <| C.block <| ?_

  refine C.loop4 [(0, _), (2, _), (4, _)] rfl (fun (qa : (List It)) (qu : (List It)) (qv : (List It)) (qc : (List It)) => [(10, i64 (qu.length : Int)), (11, i64 (qv.length : Int))]) (fun (qa : (List It)) (qu : (List It)) (qv : (List It)) (qc : (List It)) w' => M w (fpU [Rg.sl ip 112 p (la ++ lu ++ lv ++ lc), Rg.pool P P]) w' [Rg.sl ip 112 p (qa ++ qu ++ qv ++ qc), Rg.pool P P] ∧ qa.length + qu.length = m ∧ 0 < qu.length ∧ 0 < qv.length ∧ qa ++ qv ++ qu ++ qc = la ++ lv ++ lu ++ lc) (fun (qa : (List It)) (qu : (List It)) (qv : (List It)) (qc : (List It)) => qu.length + qv.length) la lu lv lc ?_ ?_ ?_
  · exact Sub.cons (look_val rfl (by omega)) <| Sub.cons (look_val rfl (by omega)) <| Sub.nil _
  · exact ⟨hM, hm.symm, hu, hv, rfl⟩
  rintro qa qu qv qc w0 ⟨hM, hq, hu0, hv0, he⟩
  refine C.seq <| C.seq <| C.region <| E.mv rfl rfl <| E.mv rfl rfl <| E.bin rfl rfl rfl rfl <| E.nil <| X.next <| ?_
  refine C.cond' rfl (fun hC0 => ?_) (fun hC0 => ?_)
  ·
    have hql : qa.length + qv.length + qu.length + qc.length = la.length + lv.length + lu.length + lc.length := by
      have := congrArg List.length he
      simpa only [List.length_append] using this
    refine C.skip <| X.next <| C.block <| C.seq <| C.region <| E.mv rfl rfl <| E.mv rfl rfl <| E.bin rfl rfl rfl rfl <| E.nil <| X.next <| ?_
    refine C.cond' rfl (fun hC1 => ?_) (fun hC1 => ?_)
    ·
      have hul : (qu.take qv.length).length = qv.length := by rw [List.length_take]; omega
      have hdl : (qu.drop qv.length).length = qu.length - qv.length := by simp
      rw [rot_u qa qu qv qc qv.length] at hM
      refine C.seq <| C.region <| E.mv rfl rfl <| E.mv rfl rfl <| E.mv rfl rfl <| ?_
      refine E.subN rfl rfl (by omega) rfl ?_
      refine E.mv rfl rfl <| E.mv rfl rfl <| E.mv rfl rfl <| ?_
      refine E.call rfl rfl (swap_ret p qa (qu.take qv.length) (qu.drop qv.length) qv qc _ _ _ fv P _ (hM.pick [0, 1] (by decide)).sep (by omega) (by omega) (by omega) (by omega) (by simp only [List.length_append]; omega)) ?_
      rintro _ w2 m2
      have hM := hM.calls [0, 1] (by decide) rfl (by simp) m2
      try dsimp only [List.nil_append, List.cons_append, List.set_cons_zero, List.set_cons_succ, repl] at hM
      refine E.nil <| X.next <| C.region <| E.mv rfl rfl <| E.mv rfl rfl <| ?_
      refine E.subN rfl rfl (by omega) rfl ?_

      refine E.asg rfl rfl <| E.nil <| X.outN <| X.again4 (qa ++ qv) (qu.drop qv.length) (qu.take qv.length) qc (Sub.cons (look_val rfl (by omega)) <| Sub.cons (look_val rfl (by omega)) <| Sub.nil _) rfl ⟨hM, by rw [List.length_append]; omega, by omega, by omega, by rw [← he, List.append_assoc (qa ++ qv), List.take_append_drop]⟩ (by omega)
    ·
      have hul : (qv.take (qv.length - qu.length)).length = qv.length - qu.length := by rw [List.length_take]; omega
      have hdl : (qv.drop (qv.length - qu.length)).length = qu.length := by simp; omega
      rw [rot_v qa qu qv qc (qv.length - qu.length)] at hM
      refine C.seq <| C.region <| E.mv rfl rfl <| E.mv rfl rfl <| E.mv rfl rfl <| ?_
      refine E.subN rfl rfl (by omega) rfl ?_
      refine E.mv rfl rfl <| E.mv rfl rfl <| ?_
      refine E.addN rfl rfl (by omega) rfl ?_
      refine E.mv rfl rfl <| ?_
      refine E.subN rfl rfl (by omega) rfl ?_
      refine E.mv rfl rfl <| E.mv rfl rfl <| ?_
      refine E.call rfl rfl (swap_ret p qa qu (qv.take (qv.length - qu.length)) (qv.drop (qv.length - qu.length)) qc _ _ _ fv P _ (hM.pick [0, 1] (by decide)).sep (by omega) (by omega) (by omega) (by omega) (by simp only [List.length_append]; omega)) ?_
      rintro _ w3 m3
      have hM := hM.calls [0, 1] (by decide) rfl (by simp) m3
      try dsimp only [List.nil_append, List.cons_append, List.set_cons_zero, List.set_cons_succ, repl] at hM
      refine E.nil <| X.next <| C.region <| E.mv rfl rfl <| E.mv rfl rfl <| ?_
      refine E.subN rfl rfl (by omega) rfl ?_

      refine E.asg rfl rfl <| E.nil <| X.outN <| X.again4 qa (qv.drop (qv.length - qu.length)) (qv.take (qv.length - qu.length)) (qu ++ qc) (Sub.cons (look_val rfl (by omega)) <| Sub.cons (look_val rfl (by omega)) <| Sub.nil _) rfl ⟨hM.to (Sym.two (by rw [← List.append_assoc]) rfl), by omega, by omega, by omega, by rw [← he, List.append_assoc qa, List.take_append_drop, ← List.append_assoc]⟩ (by omega)
  ·
    have hql : qa.length + qv.length + qu.length + qc.length = la.length + lv.length + lu.length + lc.length := by
      have := congrArg List.length he
      simpa only [List.length_append] using this
    have hM := hM.to (Sym.two (show _ = Rg.sl ip 112 p (qa ++ qu ++ [] ++ qv ++ qc) by rw [List.append_nil]) rfl)
    refine C.exit <| X.exitT <| X.exitT <| X.outE <| X.next <| C.region <| E.mv rfl rfl <| E.mv rfl rfl <| E.mv rfl rfl <| ?_
    refine E.subN rfl rfl (by omega) rfl ?_
    refine E.mv rfl rfl <| E.mv rfl rfl <| E.mv rfl rfl <| ?_
    refine E.call rfl rfl (swap_ret p qa qu [] qv qc _ _ _ fv P _ (hM.pick [0, 1] (by decide)).sep (by omega) (by simp; omega) (by omega) (by omega) (by simp only [List.length_append, List.length_nil]; omega)) ?_
    rintro _ w4 m4
    have hM := hM.calls [0, 1] (by decide) rfl (by simp) m4
    try dsimp only [List.nil_append, List.cons_append, List.set_cons_zero, List.set_cons_succ, repl] at hM
    refine E.nil <| end0 rfl ?_
    exact hM.to (Sym.two (by rw [← he, List.append_nil]) rfl)

end Go.Proofs.YtcmgbjmcklfkcaaDoor

/- prefix: symMerge, plain. -/
namespace Go.Proofs.YtcmgbjmcklfkcaaDoor
set_option linter.unusedSimpArgs false
set_option linter.unusedVariables false
open Go.RowKit Sym

theorem srt_take {α : Type} {g : α → Nat} {l : List α} {u : Nat} (h : Srt g l) (hu : u ≤ l.length) {w : Nat} (hw : u = 0 ∨ (l.map g).getD (u - 1) 0 ≤ w) : ∀ z ∈ l.take u, g z ≤ w := by
  intro z hz
  obtain ⟨k, hk, rfl⟩ := List.getElem_of_mem hz
  rw [List.length_take] at hk
  have hu' : u - 1 < l.length := by omega
  have hg : (l.map g).getD (u - 1) 0 = g l[u - 1] := by rw [List.getD_eq_getElem?_getD, List.getElem?_map, List.getElem?_eq_getElem hu']; rfl
  rw [List.getElem_take]
  rcases hw with hw | hw
  · omega
  · rw [hg] at hw
    by_cases e : k = u - 1
    · subst e; exact hw
    · have := List.pairwise_iff_getElem.1 h k (u - 1) (by omega) hu' (by omega)
      omega
theorem srt_drop {α : Type} {g : α → Nat} {l : List α} {u : Nat} (h : Srt g l) {w : Nat} (hw : u = l.length ∨ w ≤ (l.map g).getD u 0) : ∀ z ∈ l.drop u, w ≤ g z := by
  intro z hz
  obtain ⟨k, hk, rfl⟩ := List.getElem_of_mem hz
  rw [List.length_drop] at hk
  have hu' : u < l.length := by omega
  have hg : (l.map g).getD u 0 = g l[u] := by rw [List.getD_eq_getElem?_getD, List.getElem?_map, List.getElem?_eq_getElem hu']; rfl
  rw [List.getElem_drop]
  rcases hw with hw | hw
  · omega
  · rw [hg] at hw
    by_cases e : k = 0
    · subst e; exact hw
    · have := List.pairwise_iff_getElem.1 h u (u + k) hu' (by omega) (by omega)
      omega
/-- one element merged into a run behind it -/
theorem mrg_one {α : Type} {g : α → Nat} {x : α} {l : List α} {u : Nat} (h : Srt g l) (hu : u ≤ l.length) (h1 : u = 0 ∨ (l.map g).getD (u - 1) 0 < g x) (h2 : u = l.length ∨ g x ≤ (l.map g).getD u 0) : mrg g [x] l = l.take u ++ x :: l.drop u := by
  have a1 : ∀ z ∈ l.take u, g z < g x := fun z hz => by
    rcases Nat.eq_zero_or_pos (g x) with e | e
    · have : u = 0 := by omega
      subst this; simp at hz
    · have := srt_take h hu (w := g x - 1) (by omega) z hz; omega
  have a2 := srt_drop h h2
  have e1 := mrg_split (g := g) [] (l.take u) [x] (l.drop u) (fun y hy => by cases hy) (fun y hy z hz => by rw [List.mem_singleton] at hz; subst hz; exact a1 y hy)
  have e2 := mrg_split (g := g) [x] [] [] (l.drop u) (fun y hy z hz => by rw [List.mem_singleton] at hy; subst hy; exact a2 z hz) (fun y hy => by cases hy)
  rw [List.take_append_drop, List.nil_append, mrg] at e1
  rw [List.append_nil, List.nil_append, mrg_nil, mrg] at e2
  rw [e1, e2]; rfl
/-- one element merged into a run ahead of it -/
theorem mrg_two {α : Type} {g : α → Nat} {y : α} {l : List α} {u : Nat} (h : Srt g l) (hu : u ≤ l.length) (h1 : u = 0 ∨ (l.map g).getD (u - 1) 0 ≤ g y) (h2 : u = l.length ∨ g y < (l.map g).getD u 0) : mrg g l [y] = l.take u ++ y :: l.drop u := by
  have a1 := srt_take h hu h1
  have a2 := srt_drop (u := u) h (w := g y + 1) (by omega)
  have e1 := mrg_split (g := g) (l.take u) [] (l.drop u) [y] (fun x hx z hz => by rw [List.mem_singleton] at hz; subst hz; exact a1 x hx) (fun x hx => by cases hx)
  have e2 := mrg_split (g := g) [] [y] (l.drop u) [] (fun x hx => by cases hx) (fun z hz x hx => by rw [List.mem_singleton] at hz; subst hz; have := a2 x hx; omega)
  rw [List.take_append_drop, List.nil_append, mrg_nil] at e1
  rw [List.append_nil, List.nil_append, mrg_nil, mrg] at e2
  rw [e1, e2]; rfl
end Go.Proofs.YtcmgbjmcklfkcaaDoor

/- prefix: symMerge, plain: places and weights. -/
namespace Go.Proofs.YtcmgbjmcklfkcaaDoor
set_option linter.unusedSimpArgs false
set_option linter.unusedVariables false
open Go.RowKit Sym

theorem shr_u64 (c : Nat) : (c : Int) / 2 ^ min ((1 : Int)).toNat IntKind.u64.bits = ((c / 2 : Nat) : Int) := by
  have e1 : min ((1 : Int)).toNat IntKind.u64.bits = 1 := by decide
  rw [e1]; simp
/-- the weight at a place -/
def W (D : List It) (k : Nat) : Nat := (D.map wi).getD k 0
theorem W_eq {D : List It} {k : Nat} (h : k < D.length) : W D k = wi D[k] := wget h
theorem W_x {la lx ly lc : List It} {k : Nat} (h : k < lx.length) : W (la ++ lx ++ ly ++ lc) (la.length + k) = (lx.map wi).getD k 0 := by
  unfold W
  rw [List.getD_eq_getElem?_getD, List.getD_eq_getElem?_getD, List.getElem?_map, List.getElem?_map, List.append_assoc, List.append_assoc, List.getElem?_append_right (by omega), Nat.add_sub_cancel_left, List.getElem?_append_left h]
theorem W_y {la lx ly lc : List It} {k : Nat} (h : k < ly.length) : W (la ++ lx ++ ly ++ lc) (la.length + lx.length + k) = (ly.map wi).getD k 0 := by
  unfold W
  rw [List.getD_eq_getElem?_getD, List.getD_eq_getElem?_getD, List.getElem?_map, List.getElem?_map, List.append_assoc, List.getElem?_append_right (by simp), List.length_append, Nat.add_sub_cancel_left, List.getElem?_append_left h]
theorem D_len {la lx ly lc : List It} : (la ++ lx ++ ly ++ lc).length = la.length + lx.length + ly.length + lc.length := by simp only [List.length_append]
/-- the runs, cut at the places that the search finds -/
theorem sym_cut {lx ly : List It} {s t : Nat} (hx : Srt wi lx) (hy : Srt wi ly) (hs : s ≤ lx.length) (ht : t ≤ ly.length)
    (h1 : s = 0 ∨ t = ly.length ∨ (lx.map wi).getD (s - 1) 0 ≤ (ly.map wi).getD t 0) (h2 : t = 0 ∨ s = lx.length ∨ (ly.map wi).getD (t - 1) 0 < (lx.map wi).getD s 0) :
    mrg wi lx ly = mrg wi (lx.take s) (ly.take t) ++ mrg wi (lx.drop s) (ly.drop t) := by
  have := mrg_split (g := wi) (lx.take s) (ly.take t) (lx.drop s) (ly.drop t) (fun x h y h' => by
    rcases h1 with h1 | h1 | h1
    · subst h1; simp at h
    · subst h1; simp at h'
    · have a := srt_take hx hs (.inr h1) x h
      have b := srt_drop hy (u := t) (w := (ly.map wi).getD t 0) (.inr (Nat.le_refl _)) y h'
      omega) (fun y h x h' => by
    rcases h2 with h2 | h2 | h2
    · subst h2; simp at h
    · subst h2; simp at h'
    · have a := srt_take hy ht (w := (ly.map wi).getD (t - 1) 0) (.inr (Nat.le_refl _)) y h
      have b := srt_drop hx (u := s) (w := (lx.map wi).getD s 0) (.inr (Nat.le_refl _)) x h'
      omega)
  rw [List.take_append_drop, List.take_append_drop] at this; exact this
end Go.Proofs.YtcmgbjmcklfkcaaDoor
