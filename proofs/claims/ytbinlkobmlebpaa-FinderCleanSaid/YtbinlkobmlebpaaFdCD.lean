/- finder, plain: a pattern alone in a bitmap. -/
import Derived.Test.YtbinlkobmlebpaaD14
import Derived.Test.YtbinlkobmlebpaaFdGD
set_option linter.unusedSimpArgs false
set_option linter.unusedVariables false
namespace Go.Proofs.Ytbinlkobmlebpaa
open Go.RowKit Sym
namespace Fi
theorem edg_congr {c d : Nat → Bool} : ∀ {n : Nat}, (∀ k, k < n → c k = d k) → edg c n = edg d n
 | 0, _ => rfl
 | n + 1, h => by
  have ih := edg_congr (n := n) (fun k hk => h k (by omega))
  have e : (n = 0 ∨ c n ≠ c (n - 1)) ↔ (n = 0 ∨ d n ≠ d (n - 1)) := by rw [h n (by omega), h (n - 1) (by omega)]
  by_cases q : n = 0 ∨ c n ≠ c (n - 1)
  · rw [edg_t q, edg_t (e.1 q), ih]
  · rw [edg_f q, edg_f (fun z => q (e.2 z)), ih]
theorem eds_congr {c d : Nat → Bool} {n : Nat} (h : ∀ k, k < n → c k = d k) : eds c n = eds d n := by unfold eds; rw [edg_congr h]
theorem edg_run {c : Nat → Bool} {L : List Int} {a : Nat} (h : edg c a = L) (h0 : a = 0 ∨ c a ≠ c (a - 1)) : ∀ {b : Nat}, a < b → (∀ k, a < k → k < b → c k = c a) → edg c b = L ++ [(a : Int)]
  | 0, hb, _ => absurd hb (Nat.not_lt_zero _)
  | b + 1, hb, hc => by
    by_cases e : b = a
    · subst e; rw [edg_t h0, h]
    · rw [edg_f (fun z => by
        rcases z with z | z
        · omega
        · by_cases e2 : b - 1 = a
          · rw [e2] at z; exact z (hc b (by omega) (by omega))
          · exact z ((hc b (by omega) (by omega)).trans (hc (b - 1) (by omega) (by omega)).symm))]
      exact edg_run h h0 (by omega) (fun k k1 k2 => hc k k1 (by omega))
def md (s k m : Nat) : Prop := m * s ≤ k ∧ k < (m + 1) * s
theorem md_div {s k m : Nat} (h : md s k m) : k / s = m := Nat.div_eq_of_lt_le h.1 h.2
theorem pd_in {s j i J I : Nat} (hj : md s j J) (hi : md s i I) : pd s j i = decide (max (max ((I : Int) - 3) (3 - (I : Int))) (max ((J : Int) - 3) (3 - (J : Int))) ≠ 2) := by
 unfold pd; rw [md_div hj, md_div hi]
theorem pt_sym (s x y r c : Nat) : pt s x y r c = pt s y x c r := by
 unfold pt pd
 rw [Int.max_comm (max (((c - x) / s : Nat) - 3 : Int) _)]
 congr 1
 exact decide_eq_decide.2 ⟨fun h => by omega, fun h => by omega⟩
theorem pt_out {s x y r c : Nat} (h : ¬ (y ≤ r ∧ r < y + 7 * s ∧ x ≤ c ∧ c < x + 7 * s)) : pt s x y r c = false := by unfold pt; rw [decide_eq_false h, Bool.false_and]
theorem pt_in {s x y r c J I : Nat} (hr : md s (r - y) J) (hr0 : y ≤ r) (hJ : J < 7) (hc : md s (c - x) I) (hc0 : x ≤ c) (hI : I < 7) : pt s x y r c = decide (max (max ((I : Int) - 3) (3 - (I : Int))) (max ((J : Int) - 3) (3 - (J : Int))) ≠ 2) := by
 have h1 : (J + 1) * s ≤ 7 * s := Nat.mul_le_mul_right s (by omega)
 have h2 : (I + 1) * s ≤ 7 * s := Nat.mul_le_mul_right s (by omega)
 have h3 := hr.2; have h4 := hc.2
 unfold pt
 rw [decide_eq_true (by omega), Bool.true_and, pd_in hr hc]
theorem eds_mid {s x y r n J : Nat} (hs : 1 ≤ s) (hx : 1 ≤ x) (hn : x + 7 * s < n) (hr : md s (r - y) J) (hr0 : y ≤ r) (hJ : J = 2 ∨ J = 3 ∨ J = 4) :
  eds (fun k => pt s x y r k) n = [0, (x : Int), ((x + s : Nat) : Int), ((x + 2 * s : Nat) : Int), ((x + 5 * s : Nat) : Int), ((x + 6 * s : Nat) : Int), ((x + 7 * s : Nat) : Int), (n : Int)] := by
 have dk : ∀ k I, md s (k - x) I → x ≤ k → I < 7 → pt s x y r k = decide (I ≠ 1 ∧ I ≠ 5) := fun k I h1 h2 h3 => by
  rw [pt_in hr hr0 (by omega) h1 h2 h3]
  exact decide_eq_decide.2 (by omega)
 have lt : ∀ k, k < x ∨ x + 7 * s ≤ k → pt s x y r k = false := fun k h => pt_out (by omega)
 have seg : ∀ k, x ≤ k → k < x + 7 * s → ((k < x + s ∨ (x + 2 * s ≤ k ∧ k < x + 5 * s) ∨ x + 6 * s ≤ k) → pt s x y r k = true) ∧ (((x + s ≤ k ∧ k < x + 2 * s) ∨ (x + 5 * s ≤ k ∧ k < x + 6 * s)) → pt s x y r k = false) := fun k h1 h2 => by
  have hI : ∃ I, I < 7 ∧ md s (k - x) I := by
   by_cases z0 : k < x + s
   · exact ⟨0, by omega, by unfold md; omega⟩
   by_cases z1 : k < x + 2 * s
   · exact ⟨1, by omega, by unfold md; omega⟩
   by_cases z2 : k < x + 3 * s
   · exact ⟨2, by omega, by unfold md; omega⟩
   by_cases z3 : k < x + 4 * s
   · exact ⟨3, by omega, by unfold md; omega⟩
   by_cases z4 : k < x + 5 * s
   · exact ⟨4, by omega, by unfold md; omega⟩
   by_cases z5 : k < x + 6 * s
   · exact ⟨5, by omega, by unfold md; omega⟩
   · exact ⟨6, by omega, by unfold md; omega⟩
  obtain ⟨I, hI, hm⟩ := hI
  rw [dk k I hm h1 hI]
  unfold md at hm
  have hI' : I = 0 ∨ I = 1 ∨ I = 2 ∨ I = 3 ∨ I = 4 ∨ I = 5 ∨ I = 6 := by omega
  rcases hI' with rfl | rfl | rfl | rfl | rfl | rfl | rfl <;> refine ⟨fun q => ?_, fun q => ?_⟩ <;> first | rfl | omega
 have d1 : ∀ k, x ≤ k → k < x + s → pt s x y r k = true := fun k a b => (seg k a (by omega)).1 (.inl b)
 have d2 : ∀ k, x + s ≤ k → k < x + 2 * s → pt s x y r k = false := fun k a b => (seg k (by omega) (by omega)).2 (.inl ⟨a, b⟩)
 have d3 : ∀ k, x + 2 * s ≤ k → k < x + 5 * s → pt s x y r k = true := fun k a b => (seg k (by omega) (by omega)).1 (.inr (.inl ⟨a, b⟩))
 have d4 : ∀ k, x + 5 * s ≤ k → k < x + 6 * s → pt s x y r k = false := fun k a b => (seg k (by omega) (by omega)).2 (.inr ⟨a, b⟩)
 have d5 : ∀ k, x + 6 * s ≤ k → k < x + 7 * s → pt s x y r k = true := fun k a b => (seg k (by omega) b).1 (.inr (.inr a))
 have e1 := edg_run (c := fun k => pt s x y r k) (L := []) (a := 0) rfl (.inl rfl) (b := x) (by omega) (fun k a b => (lt k (.inl b)).trans (lt 0 (.inl (by omega))).symm)
 have e2 := edg_run e1 (.inr (show pt s x y r x ≠ pt s x y r (x - 1) by rw [d1 x (Nat.le_refl _) (by omega), lt (x - 1) (.inl (by omega))]; decide)) (b := x + s) (by omega) (fun k a b => (d1 k (by omega) b).trans (d1 x (Nat.le_refl _) (by omega)).symm)
 have e3 := edg_run e2 (.inr (show pt s x y r (x + s) ≠ pt s x y r (x + s - 1) by rw [d2 (x + s) (Nat.le_refl _) (by omega), d1 (x + s - 1) (by omega) (by omega)]; decide)) (b := x + 2 * s) (by omega) (fun k a b => (d2 k (by omega) b).trans (d2 (x + s) (Nat.le_refl _) (by omega)).symm)
 have e4 := edg_run e3 (.inr (show pt s x y r (x + 2 * s) ≠ pt s x y r (x + 2 * s - 1) by rw [d3 (x + 2 * s) (Nat.le_refl _) (by omega), d2 (x + 2 * s - 1) (by omega) (by omega)]; decide)) (b := x + 5 * s) (by omega) (fun k a b => (d3 k (by omega) b).trans (d3 (x + 2 * s) (Nat.le_refl _) (by omega)).symm)
 have e5 := edg_run e4 (.inr (show pt s x y r (x + 5 * s) ≠ pt s x y r (x + 5 * s - 1) by rw [d4 (x + 5 * s) (Nat.le_refl _) (by omega), d3 (x + 5 * s - 1) (by omega) (by omega)]; decide)) (b := x + 6 * s) (by omega) (fun k a b => (d4 k (by omega) b).trans (d4 (x + 5 * s) (Nat.le_refl _) (by omega)).symm)
 have e6 := edg_run e5 (.inr (show pt s x y r (x + 6 * s) ≠ pt s x y r (x + 6 * s - 1) by rw [d5 (x + 6 * s) (Nat.le_refl _) (by omega), d4 (x + 6 * s - 1) (by omega) (by omega)]; decide)) (b := x + 7 * s) (by omega) (fun k a b => (d5 k (by omega) b).trans (d5 (x + 6 * s) (Nat.le_refl _) (by omega)).symm)
 have e7 := edg_run e6 (.inr (show pt s x y r (x + 7 * s) ≠ pt s x y r (x + 7 * s - 1) by rw [lt (x + 7 * s) (.inr (Nat.le_refl _)), d5 (x + 7 * s - 1) (by omega) (by omega)]; decide)) (b := n) (by omega) (fun k a b => (lt k (.inr (by omega))).trans (lt (x + 7 * s) (.inr (Nat.le_refl _))).symm)
 unfold eds
 rw [e7]; rfl
theorem eds_few {c : Nat → Bool} {s x n : Nat} (hs : 1 ≤ s) (hx : 1 ≤ x) (hn : x + 7 * s < n) (hl : ∀ k, k < x ∨ x + 7 * s ≤ k → c k = false)
    (hc : (∀ k, x ≤ k → k < x + 7 * s → c k = false) ∨ (∀ k, x ≤ k → k < x + 7 * s → c k = true) ∨ (∀ k, x ≤ k → k < x + 7 * s → c k = decide (k < x + s ∨ x + 6 * s ≤ k))) : (eds c n).length ≤ 6 := by
  have e1 := edg_run (c := c) (L := []) (a := 0) rfl (.inl rfl) (b := x) (by omega) (fun k a b => (hl k (.inl b)).trans (hl 0 (.inl (by omega))).symm)
  rcases hc with h | h | h
  · have e2 := edg_run (c := c) (L := []) (a := 0) rfl (.inl rfl) (b := n) (by omega) (fun k a b => by
      have h0 : ∀ k, c k = false := fun k => if q : x ≤ k ∧ k < x + 7 * s then h k q.1 q.2 else hl k (by omega)
      rw [h0, h0])
    unfold eds; rw [e2]; simp
  · have e2 := edg_run e1 (.inr (show c x ≠ c (x - 1) by rw [h x (Nat.le_refl _) (by omega), hl (x - 1) (.inl (by omega))]; decide)) (b := x + 7 * s) (by omega) (fun k a b => (h k (by omega) b).trans (h x (Nat.le_refl _) (by omega)).symm)
    have e3 := edg_run e2 (.inr (show c (x + 7 * s) ≠ c (x + 7 * s - 1) by rw [hl (x + 7 * s) (.inr (Nat.le_refl _)), h (x + 7 * s - 1) (by omega) (by omega)]; decide)) (b := n) (by omega) (fun k a b => (hl k (.inr (by omega))).trans (hl (x + 7 * s) (.inr (Nat.le_refl _))).symm)
    unfold eds; rw [e3]; simp
  · have t1 : ∀ k, x ≤ k → k < x + s → c k = true := fun k a b => (h k a (by omega)).trans (decide_eq_true (.inl b))
    have t2 : ∀ k, x + s ≤ k → k < x + 6 * s → c k = false := fun k a b => (h k (by omega) (by omega)).trans (decide_eq_false (by omega))
    have t3 : ∀ k, x + 6 * s ≤ k → k < x + 7 * s → c k = true := fun k a b => (h k (by omega) b).trans (decide_eq_true (.inr a))
    have e2 := edg_run e1 (.inr (show c x ≠ c (x - 1) by rw [t1 x (Nat.le_refl _) (by omega), hl (x - 1) (.inl (by omega))]; decide)) (b := x + s) (by omega) (fun k a b => (t1 k (by omega) b).trans (t1 x (Nat.le_refl _) (by omega)).symm)
    have e3 := edg_run e2 (.inr (show c (x + s) ≠ c (x + s - 1) by rw [t2 (x + s) (Nat.le_refl _) (by omega), t1 (x + s - 1) (by omega) (by omega)]; decide)) (b := x + 6 * s) (by omega) (fun k a b => (t2 k (by omega) b).trans (t2 (x + s) (Nat.le_refl _) (by omega)).symm)
    have e4 := edg_run e3 (.inr (show c (x + 6 * s) ≠ c (x + 6 * s - 1) by rw [t3 (x + 6 * s) (Nat.le_refl _) (by omega), t2 (x + 6 * s - 1) (by omega) (by omega)]; decide)) (b := x + 7 * s) (by omega) (fun k a b => (t3 k (by omega) b).trans (t3 (x + 6 * s) (Nat.le_refl _) (by omega)).symm)
    have e5 := edg_run e4 (.inr (show c (x + 7 * s) ≠ c (x + 7 * s - 1) by rw [hl (x + 7 * s) (.inr (Nat.le_refl _)), t3 (x + 7 * s - 1) (by omega) (by omega)]; decide)) (b := n) (by omega) (fun k a b => (hl k (.inr (by omega))).trans (hl (x + 7 * s) (.inr (Nat.le_refl _))).symm)
    unfold eds; rw [e5]; simp
theorem eds_side {s x y r n : Nat} (hs : 1 ≤ s) (hx : 1 ≤ x) (hn : x + 7 * s < n) (hr : ¬ (y + 2 * s ≤ r ∧ r < y + 5 * s)) : (eds (fun k => pt s x y r k) n).length ≤ 6 := by
  refine eds_few hs hx hn (fun k h => pt_out (by omega)) ?_
  have hmod : ∀ k, x ≤ k → k < x + 7 * s → ∃ I, I < 7 ∧ md s (k - x) I ∧ (I = 0 ↔ k < x + s) ∧ (I = 6 ↔ x + 6 * s ≤ k) := fun k h1 h2 => by
    by_cases z0 : k < x + s
    · exact ⟨0, by omega, by unfold md; omega, by omega, by omega⟩
    by_cases z1 : k < x + 2 * s
    · exact ⟨1, by omega, by unfold md; omega, by omega, by omega⟩
    by_cases z2 : k < x + 3 * s
    · exact ⟨2, by omega, by unfold md; omega, by omega, by omega⟩
    by_cases z3 : k < x + 4 * s
    · exact ⟨3, by omega, by unfold md; omega, by omega, by omega⟩
    by_cases z4 : k < x + 5 * s
    · exact ⟨4, by omega, by unfold md; omega, by omega, by omega⟩
    by_cases z5 : k < x + 6 * s
    · exact ⟨5, by omega, by unfold md; omega, by omega, by omega⟩
    · exact ⟨6, by omega, by unfold md; omega, by omega, by omega⟩
  by_cases o : y ≤ r ∧ r < y + 7 * s
  · have edge : ∀ J, (J = 0 ∨ J = 6) → md s (r - y) J → (∀ k, x ≤ k → k < x + 7 * s → pt s x y r k = true) := fun J hJ hm k h1 h2 => by
      obtain ⟨I, hI, hmI, _, _⟩ := hmod k h1 h2
      rw [pt_in hm o.1 (by omega) hmI h1 hI]; exact decide_eq_true (by omega)
    have ring : ∀ J, (J = 1 ∨ J = 5) → md s (r - y) J → (∀ k, x ≤ k → k < x + 7 * s → pt s x y r k = decide (k < x + s ∨ x + 6 * s ≤ k)) := fun J hJ hm k h1 h2 => by
      obtain ⟨I, hI, hmI, h3, h4⟩ := hmod k h1 h2
      rw [pt_in hm o.1 (by omega) hmI h1 hI]; exact decide_eq_decide.2 (by omega)
    by_cases z0 : r < y + s
    · exact .inr (.inl (edge 0 (.inl rfl) (by unfold md; omega)))
    by_cases z1 : r < y + 2 * s
    · exact .inr (.inr (ring 1 (.inl rfl) (by unfold md; omega)))
    by_cases z5 : r < y + 6 * s
    · exact .inr (.inr (ring 5 (.inr rfl) (by unfold md; omega)))
    · exact .inr (.inl (edge 6 (.inr rfl) (by unfold md; omega)))
  · exact .inl (fun k _ _ => pt_out (by omega))
end Fi
end Go.Proofs.Ytbinlkobmlebpaa
