/- Texts of the claim, laid together: DfT, PfM. -/
import Derived.Test.YtcmgbjmcklfkcaaDoorG10
/- Deflate, as plain mathematics: the symbols of lengths and distances; the tokens of data; what Expand makes of them. -/
namespace Go.Proofs.YtcmgbjmcklfkcaaDoor
set_option linter.unusedSimpArgs false
set_option linter.unusedVariables false
open Sym
namespace Df
def lxt (s : Nat) : Nat := if s = 285 then 0 else if s < 265 then 0 else (s - 261) / 4
def lls (s : Nat) : Nat := if s = 285 then 258 else if s < 265 then s - 254 else 3 + (4 + (s - 261) % 4) * 2 ^ ((s - 261) / 4)
def dxt (s : Nat) : Nat := if s < 4 then 0 else s / 2 - 1
def dls (s : Nat) : Nat := if s < 4 then s + 1 else 1 + (2 + s % 2) * 2 ^ (s / 2 - 1)
/-- the greatest symbol whose least number is not greater -/
def sgo (ls : Nat → Nat) (n : Nat) : Nat → Nat
  | 0 => 0
  | s + 1 => if ls (s + 1) ≤ n then s + 1 else sgo ls n s
def lsy (n : Nat) : Nat := sgo lls n 285
def dsy (n : Nat) : Nat := sgo dls n 29
theorem sgo_spec (ls : Nat → Nat) (n : Nat) : ∀ k, sgo ls n k ≤ k ∧ (ls (sgo ls n k) ≤ n ∨ sgo ls n k = 0) ∧ ∀ s, sgo ls n k < s → s ≤ k → n < ls s
  | 0 => ⟨Nat.le_refl _, .inr rfl, fun s h1 h2 => by simp [sgo] at h1; omega⟩
  | k + 1 => by
    rw [sgo]
    by_cases h : ls (k + 1) ≤ n
    · rw [if_pos h]; exact ⟨Nat.le_refl _, .inl h, fun s h1 h2 => by omega⟩
    · rw [if_neg h]
      obtain ⟨h1, h2, h3⟩ := sgo_spec ls n k
      refine ⟨by omega, h2, fun s g1 g2 => ?_⟩
      by_cases e : s = k + 1
      · subst e; omega
      · exact h3 s g1 (by omega)
theorem lsy_all : ∀ n, n < 259 → 3 ≤ n → 257 ≤ lsy n ∧ lsy n ≤ 285 ∧ lls (lsy n) ≤ n ∧ n < lls (lsy n) + 2 ^ lxt (lsy n) := by decide +kernel
theorem lsy_spec {n : Nat} (h1 : 3 ≤ n) (h2 : n ≤ 258) : 257 ≤ lsy n ∧ lsy n ≤ 285 ∧ lls (lsy n) ≤ n ∧ n < lls (lsy n) + 2 ^ lxt (lsy n) := lsy_all n (by omega) h1
theorem dls_next : ∀ s, s < 29 → dls (s + 1) = dls s + 2 ^ dxt s := by decide +kernel
theorem lx_bd : ∀ s, s < 286 → lxt s ≤ 5 ∧ lls s ≤ 258 := by decide +kernel
theorem dx_bd : ∀ s, s < 30 → dxt s ≤ 13 ∧ dls s ≤ 24577 ∧ 1 ≤ dls s := by decide +kernel
theorem dsy_spec {n : Nat} (h1 : 1 ≤ n) (h2 : n ≤ 32768) : dsy n ≤ 29 ∧ dls (dsy n) ≤ n ∧ n < dls (dsy n) + 2 ^ dxt (dsy n) := by
  obtain ⟨g1, g2, g3⟩ := sgo_spec dls n 29
  have g4 : dls (dsy n) ≤ n := by
    rcases g2 with g | g
    · exact g
    · unfold dsy; rw [g]; exact h1
  refine ⟨g1, g4, ?_⟩
  by_cases e : dsy n = 29
  · rw [e]; have : dls 29 + 2 ^ dxt 29 = 32769 := by decide
    omega
  · have hl : dsy n < 29 := by unfold dsy at e ⊢; omega
    have := g3 (dsy n + 1) (by unfold dsy; omega) (by omega)
    rw [dls_next _ hl] at this; exact this
/-! matches -/
def key (p : List UInt8) (i : Nat) : Nat := (p.getD i 0).toNat * 65536 + (p.getD (i + 1) 0).toNat * 256 + (p.getD (i + 2) 0).toNat
/-- the equal bytes from two places on -/
def ego (p : List UInt8) (j i : Nat) : Nat → Nat → Nat
  | 0, n => n
  | f + 1, n => if i + n < p.length ∧ p.getD (j + n) 0 = p.getD (i + n) 0 then ego p j i f (n + 1) else n
def eqn (p : List UInt8) (j i : Nat) : Nat := ego p j i 258 0
theorem ego_spec {p : List UInt8} {j i : Nat} : ∀ (f n : Nat), n ≤ ego p j i f n ∧ ego p j i f n ≤ n + f ∧ (∀ k, n ≤ k → k < ego p j i f n → i + k < p.length ∧ p.getD (j + k) 0 = p.getD (i + k) 0) ∧ (ego p j i f n < n + f → ¬ (i + ego p j i f n < p.length ∧ p.getD (j + ego p j i f n) 0 = p.getD (i + ego p j i f n) 0))
  | 0, n => ⟨Nat.le_refl _, Nat.le_refl _, fun k h1 h2 => by rw [ego] at h2; omega, fun h => by rw [ego] at h; omega⟩
  | f + 1, n => by
    rw [ego]
    by_cases h : i + n < p.length ∧ p.getD (j + n) 0 = p.getD (i + n) 0
    · rw [if_pos h]
      obtain ⟨h1, h2, h3, h4⟩ := ego_spec (p := p) (j := j) (i := i) f (n + 1)
      refine ⟨by omega, by omega, fun k g1 g2 => ?_, fun g => h4 (by omega)⟩
      by_cases e : k = n
      · subst e; exact h
      · exact h3 k (by omega) g2
    · rw [if_neg h]
      exact ⟨Nat.le_refl _, by omega, fun k g1 g2 => by omega, fun _ => h⟩
theorem eqn_spec (p : List UInt8) (j i : Nat) : eqn p j i ≤ 258 ∧ (∀ k, k < eqn p j i → i + k < p.length ∧ p.getD (j + k) 0 = p.getD (i + k) 0) ∧ (eqn p j i < 258 → ¬ (i + eqn p j i < p.length ∧ p.getD (j + eqn p j i) 0 = p.getD (i + eqn p j i) 0)) := by
  obtain ⟨_, h2, h3, h4⟩ := ego_spec (p := p) (j := j) (i := i) 258 0
  exact ⟨by unfold eqn; omega, fun k hk => h3 k (Nat.zero_le _) hk, fun h => h4 (by unfold eqn at h; omega)⟩
theorem u8_ext {a b : UInt8} (h : a.toNat = b.toNat) : a = b := UInt8.toNat_inj.1 h
theorem key_eq {p : List UInt8} {j i : Nat} : key p j = key p i ↔ ∀ k, k < 3 → p.getD (j + k) 0 = p.getD (i + k) 0 := by
  have b : ∀ x, (p.getD x 0).toNat < 256 := fun x => (p.getD x 0).toNat_lt
  constructor
  · intro h k hk
    have := b j; have := b (j + 1); have := b (j + 2); have := b i; have := b (i + 1); have := b (i + 2)
    unfold key at h
    refine u8_ext ?_
    rcases (show k = 0 ∨ k = 1 ∨ k = 2 by omega) with rfl | rfl | rfl
    · show (p.getD j 0).toNat = (p.getD i 0).toNat; omega
    · omega
    · omega
  · intro h
    have h0 : p.getD j 0 = p.getD i 0 := h 0 (by decide)
    unfold key; rw [h0, h 1 (by decide), h 2 (by decide)]
theorem eqn_three {p : List UInt8} {j i : Nat} (hi : i + 3 ≤ p.length) : 3 ≤ eqn p j i ↔ key p j = key p i := by
  obtain ⟨h1, h2, h3⟩ := eqn_spec p j i
  rw [key_eq]
  constructor
  · intro h k hk; exact (h2 k (by omega)).2
  · intro h
    by_cases c : eqn p j i < 3
    · exact (h3 (by omega) ⟨by omega, h _ c⟩).elim
    · omega
theorem eqn_short {p : List UInt8} {j i : Nat} (hi : p.length < i + 3) : eqn p j i < 3 := by
  obtain ⟨h1, h2, h3⟩ := eqn_spec p j i
  by_cases c : eqn p j i < 3
  · exact c
  · have := (h2 2 (by omega)).1; omega
/-- the best match: j places are left to look at -/
def bgo (p : List UInt8) (i : Nat) : Nat → Nat → Nat → Nat → Nat × Nat
  | 0, len, dist, _ => (len, dist)
  | j + 1, len, dist, seen =>
    if 32 ≤ seen then (len, dist)
    else if 3 ≤ eqn p j i then (if len < eqn p j i then bgo p i j (eqn p j i) (i - j) (seen + 1) else bgo p i j len dist (seen + 1))
    else bgo p i j len dist seen
def bst (p : List UInt8) (i : Nat) : Nat × Nat := bgo p i i 0 0 0
theorem bgo_full {p : List UInt8} {i : Nat} {len dist seen : Nat} (h : 32 ≤ seen) : ∀ j, bgo p i j len dist seen = (len, dist)
  | 0 => rfl
  | j + 1 => by rw [bgo, if_pos h]
theorem bgo_skip {p : List UInt8} {i len dist seen b : Nat} : ∀ {a : Nat}, b ≤ a → (∀ j, b ≤ j → j < a → eqn p j i < 3) → bgo p i a len dist seen = bgo p i b len dist seen := by
  intro a
  induction a with
  | zero => intro h _; obtain rfl : b = 0 := by omega
            rfl
  | succ a ih =>
    intro h hn
    by_cases e : b = a + 1
    · subst e; rfl
    · by_cases hs : 32 ≤ seen
      · rw [bgo_full hs, bgo_full hs]
      · rw [bgo, if_neg hs, if_neg (by have := hn a (by omega) (by omega); omega)]
        exact ih (by omega) fun j h1 h2 => hn j h1 (by omega)
/-- what a match is -/
def Good (p : List UInt8) (i : Nat) (r : Nat × Nat) : Prop := 3 ≤ r.1 ∧ r.1 ≤ 258 ∧ 1 ≤ r.2 ∧ r.2 ≤ i ∧ i + r.1 ≤ p.length ∧ ∀ k, k < r.1 → p.getD (i - r.2 + k) 0 = p.getD (i + k) 0
theorem good_of {p : List UInt8} {i j : Nat} (hj : j < i) (h : 3 ≤ eqn p j i) : Good p i (eqn p j i, i - j) := by
  obtain ⟨h1, h2, h3⟩ := eqn_spec p j i
  refine ⟨h, h1, by show 1 ≤ i - j; omega, by show i - j ≤ i; omega, ?_, fun k hk => ?_⟩
  · have := (h2 (eqn p j i - 1) (by omega)).1
    show i + eqn p j i ≤ _; omega
  · have := (h2 k hk).2
    show p.getD (i - (i - j) + k) 0 = _
    rw [show i - (i - j) = j by omega]; exact this
theorem bgo_good {p : List UInt8} {i : Nat} : ∀ (j len dist seen : Nat), j ≤ i → ((len, dist) = (0, 0) ∨ Good p i (len, dist)) → (bgo p i j len dist seen = (0, 0) ∨ Good p i (bgo p i j len dist seen))
  | 0, len, dist, seen, _, h => h
  | j + 1, len, dist, seen, hj, h => by
    rw [bgo]
    split
    · exact h
    · split
      · split
        · exact bgo_good j _ _ _ (by omega) (.inr (good_of (by omega) ‹_›))
        · exact bgo_good j _ _ _ (by omega) h
      · exact bgo_good j _ _ _ (by omega) h
theorem bst_good (p : List UInt8) (i : Nat) : bst p i = (0, 0) ∨ Good p i (bst p i) := bgo_good i 0 0 0 (Nat.le_refl _) (.inl rfl)
theorem bst_bd {p : List UInt8} {i : Nat} (hi : i < p.length) : (bst p i).1 ≤ 258 ∧ (bst p i).2 ≤ i ∧ i + (bst p i).1 ≤ p.length := by
  rcases bst_good p i with h | h
  · rw [h]; exact ⟨by decide, by simp, by simp; omega⟩
  · exact ⟨h.2.1, h.2.2.2.1, h.2.2.2.2.1⟩
/-- the tokens of data from a place on -/
def toks (p : List UInt8) (at_ : Nat) : List Nat :=
  if h : at_ < p.length then
    (if h2 : (bst p at_).1 = 0 then (p.getD at_ 0).toNat :: toks p (at_ + 1) else ((bst p at_).1 * 65536 + (bst p at_).2) :: toks p (at_ + (bst p at_).1))
  else []
termination_by p.length - at_
theorem toks_lit {p : List UInt8} {i : Nat} (h : i < p.length) (h2 : (bst p i).1 = 0) : toks p i = (p.getD i 0).toNat :: toks p (i + 1) := by rw [toks, dif_pos h, dif_pos h2]
theorem toks_mat {p : List UInt8} {i : Nat} (h : i < p.length) (h2 : ¬ (bst p i).1 = 0) : toks p i = ((bst p i).1 * 65536 + (bst p i).2) :: toks p (i + (bst p i).1) := by rw [toks, dif_pos h, dif_neg h2]
theorem toks_end {p : List UInt8} {i : Nat} (h : p.length ≤ i) : toks p i = [] := by rw [toks, dif_neg (by omega)]
/-- the greatest place below m with three bytes, or -1 -/
def pv (p : List UInt8) (k : Nat) : Nat → Int
  | 0 => -1
  | m + 1 => if m + 3 ≤ p.length ∧ key p m = k then (m : Int) else pv p k m
theorem pv_spec (p : List UInt8) (k : Nat) : ∀ m, (pv p k m = -1 ∧ ∀ j, j < m → j + 3 ≤ p.length → key p j ≠ k) ∨ ∃ q : Nat, pv p k m = (q : Int) ∧ q < m ∧ q + 3 ≤ p.length ∧ key p q = k ∧ ∀ j, q < j → j < m → j + 3 ≤ p.length → key p j ≠ k
  | 0 => .inl ⟨rfl, fun j h => by omega⟩
  | m + 1 => by
    rw [pv]
    by_cases h : m + 3 ≤ p.length ∧ key p m = k
    · rw [if_pos h]; exact .inr ⟨m, rfl, by omega, h.1, h.2, fun j h1 h2 => by omega⟩
    · rw [if_neg h]
      rcases pv_spec p k m with ⟨h1, h2⟩ | ⟨q, h1, h2, h3, h4, h5⟩
      · refine .inl ⟨h1, fun j hj hl => ?_⟩
        by_cases e : j = m
        · subst e; exact fun e => h ⟨hl, e⟩
        · exact h2 j (by omega) hl
      · refine .inr ⟨q, h1, by omega, h3, h4, fun j g1 g2 hl => ?_⟩
        by_cases e : j = m
        · subst e; exact fun e => h ⟨hl, e⟩
        · exact h5 j g1 (by omega) hl
/-- the places a chain jumps over do not count -/
theorem bgo_pv {p : List UInt8} {i m len dist seen : Nat} (hi : i + 3 ≤ p.length) (hm : m ≤ i) : (pv p (key p i) m = -1 ∧ bgo p i m len dist seen = (len, dist)) ∨ ∃ q : Nat, pv p (key p i) m = (q : Int) ∧ q < m ∧ q + 3 ≤ p.length ∧ key p q = key p i ∧ 3 ≤ eqn p q i ∧ bgo p i m len dist seen = bgo p i (q + 1) len dist seen := by
  have hlt : ∀ j, j < m → key p j ≠ key p i → eqn p j i < 3 := fun j hj h => by
    by_cases c : 3 ≤ eqn p j i
    · exact (h ((eqn_three hi).1 c)).elim
    · omega
  rcases pv_spec p (key p i) m with ⟨h1, h2⟩ | ⟨q, h1, h2, h3, h4, h5⟩
  · left
    refine ⟨h1, ?_⟩
    rw [bgo_skip (b := 0) (Nat.zero_le _) (fun j _ hj => hlt j hj (h2 j hj (by omega))), bgo]
  · right
    exact ⟨q, h1, h2, h3, h4, (eqn_three hi).2 h4, bgo_skip (by omega) fun j g1 g2 => hlt j g2 (h5 j (by omega) g2 (by omega))⟩
theorem bst_short {p : List UInt8} {i : Nat} (h : p.length < i + 3) : bst p i = (0, 0) := by
  unfold bst
  rw [bgo_skip (b := 0) (Nat.zero_le _) (fun j _ _ => eqn_short h), bgo]
/-! Expand -/
/-- bytes again, from a distance -/
def rp (d : Nat) (out : List UInt8) : Nat → List UInt8
  | 0 => out
  | n + 1 => rp d out n ++ [(rp d out n).getD ((rp d out n).length - d) 0]
theorem rp_len (d : Nat) (out : List UInt8) : ∀ n, (rp d out n).length = out.length + n
  | 0 => rfl
  | n + 1 => by rw [rp, List.length_append, rp_len d out n]; rfl
theorem rp_take {p : List UInt8} {i d : Nat} (hd : 1 ≤ d) (hdi : d ≤ i) : ∀ n, i + n ≤ p.length → (∀ k, k < n → p.getD (i - d + k) 0 = p.getD (i + k) 0) → rp d (p.take i) n = p.take (i + n)
  | 0, _, _ => rfl
  | n + 1, hl, h => by
    have ih := rp_take hd hdi n (by omega) fun k hk => h k (by omega)
    rw [rp, ih, List.length_take, Nat.min_eq_left (by omega), ← Nat.add_assoc, ← List.take_append_getElem (show i + n < p.length by omega)]
    congr 2
    have h1 := h n (by omega)
    rw [List.getD_eq_getElem?_getD, List.getElem?_take_of_lt (by omega), ← List.getD_eq_getElem?_getD, show i + n - d = i - d + n by omega, h1, List.getD_eq_getElem?_getD, List.getElem?_eq_getElem (by omega)]; rfl
/-- what Expand answers -/
def exv : List UInt8 → List Int → List UInt8 × Int
  | out, [] => (out, 0)
  | out, t :: ts =>
    if 0 ≤ t ∧ t ≤ 255 then (if 16777216 < out.length + 1 then ([], 4) else exv (out ++ [UInt8.ofNat t.toNat]) ts)
    else if t / 65536 < 3 ∨ 258 < t / 65536 ∨ t % 65536 < 1 ∨ 32768 < t % 65536 then ([], 9)
    else if (out.length : Int) < t % 65536 then ([], 28)
    else if 16777216 < out.length + (t / 65536).toNat then ([], 4)
    else exv (rp (t % 65536).toNat out (t / 65536).toNat) ts
theorem exv_toks {p : List UInt8} (hp : p.length ≤ 32768) (i : Nat) (hi : i ≤ p.length) : exv (p.take i) ((toks p i).map fun n : Nat => (n : Int)) = (p, 0) := by
  by_cases h : i < p.length
  · have hlt : (p.take i).length = i := by rw [List.length_take]; omega
    by_cases h2 : (bst p i).1 = 0
    · rw [toks_lit h h2, List.map_cons, exv]
      have hb := (p.getD i 0).toNat_lt
      rw [if_pos (by omega), if_neg (by omega), Int.toNat_natCast]
      have e : p.take i ++ [UInt8.ofNat (p.getD i 0).toNat] = p.take (i + 1) := by
        rw [UInt8.ofNat_toNat, List.getD_eq_getElem?_getD, List.getElem?_eq_getElem h]
        exact List.take_append_getElem h
      rw [e]
      exact exv_toks hp (i + 1) (by omega)
    · rw [toks_mat h h2, List.map_cons, exv]
      rcases bst_good p i with hz | ⟨g1, g2, g3, g4, g5, g6⟩
      · rw [hz] at h2; exact (h2 rfl).elim
      · have e1 : (((bst p i).1 * 65536 + (bst p i).2 : Nat) : Int) / 65536 = ((bst p i).1 : Int) := by omega
        have e2 : (((bst p i).1 * 65536 + (bst p i).2 : Nat) : Int) % 65536 = ((bst p i).2 : Int) := by omega
        rw [e1, e2, if_neg (by omega), if_neg (by omega), if_neg (by omega), Int.toNat_natCast, Int.toNat_natCast, if_neg (by omega), rp_take g3 g4 _ g5 g6]
        exact exv_toks hp (i + (bst p i).1) g5
  · obtain rfl : i = p.length := by omega
    rw [toks_end (Nat.le_refl _), List.take_length]; rfl
termination_by p.length - i
theorem toks_ok {p : List UInt8} (hp : p.length ≤ 32768) (i : Nat) : ∀ t ∈ toks p i, t ≤ 255 ∨ (3 ≤ t / 65536 ∧ t / 65536 ≤ 258 ∧ 1 ≤ t % 65536 ∧ t % 65536 ≤ p.length) := by
  by_cases h : i < p.length
  · by_cases h2 : (bst p i).1 = 0
    · rw [toks_lit h h2]
      intro t ht
      rcases List.mem_cons.1 ht with rfl | ht
      · left; have := (p.getD i 0).toNat_lt; omega
      · exact toks_ok hp (i + 1) t ht
    · rw [toks_mat h h2]
      intro t ht
      rcases List.mem_cons.1 ht with rfl | ht
      · rcases bst_good p i with hz | ⟨g1, g2, g3, g4, g5, g6⟩
        · rw [hz] at h2; exact (h2 rfl).elim
        · right
          exact ⟨by omega, by omega, by omega, by omega⟩
      · exact toks_ok hp (i + (bst p i).1) t ht
  · rw [toks_end (by omega)]; intro t ht; cases ht
termination_by p.length - i
end Df
end Go.Proofs.YtcmgbjmcklfkcaaDoor

/- Prefix codes, as plain mathematics: the order of the symbols, the canonical codes. -/
namespace Go.Proofs.YtcmgbjmcklfkcaaDoor.Pf
set_option linter.unusedSimpArgs false
set_option linter.unusedVariables false

/-- a length's part of the Kraft sum, in units of 2^-30 -/
def un (n : Nat) : Nat := if n = 0 then 0 else 2 ^ (30 - n)
def kr (l : List Nat) : Nat := (l.map un).sum
theorem kr_app (a b : List Nat) : kr (a ++ b) = kr a + kr b := by simp [kr]
theorem un_pos {n : Nat} (h : n ≠ 0) : 0 < un n := by rw [un, if_neg h]; exact Nat.pow_pos (by decide)
theorem un_le (n : Nat) : un n ≤ 2 ^ 29 := by
  unfold un
  split
  · exact Nat.zero_le _
  · exact Nat.pow_le_pow_right (by decide) (by omega)
theorem kr_le (l : List Nat) : kr l ≤ 2 ^ 29 * l.length := by
  induction l with
  | nil => simp [kr]
  | cons a l ih =>
    have := un_le a
    simp only [kr, List.map_cons, List.sum_cons, List.length_cons] at *; omega
/-- the symbols of length n, in order -/
def sy (l : List Nat) (n : Nat) : List Nat := (List.range l.length).filter fun i => decide (l.getD i 0 = n)
/-- the symbols of length 1 to n, by length -/
def ord (l : List Nat) : Nat → List Nat
  | 0 => []
  | n + 1 => ord l n ++ sy l (n + 1)
theorem sy_mem {l : List Nat} {n i : Nat} : i ∈ sy l n ↔ i < l.length ∧ l.getD i 0 = n := by
  unfold sy; rw [List.mem_filter, List.mem_range, decide_eq_true_eq]
theorem ord_mem {l : List Nat} {n i : Nat} : i ∈ ord l n ↔ i < l.length ∧ 1 ≤ l.getD i 0 ∧ l.getD i 0 ≤ n := by
  induction n with
  | zero => simp [ord]; omega
  | succ n ih => rw [ord, List.mem_append, ih, sy_mem]; omega
theorem sy_nodup (l : List Nat) (n : Nat) : (sy l n).Nodup := List.nodup_range.sublist List.filter_sublist
theorem ord_nodup (l : List Nat) (n : Nat) : (ord l n).Nodup := by
  induction n with
  | zero => simp [ord]
  | succ n ih =>
    rw [ord]
    refine List.nodup_append.2 ⟨ih, sy_nodup l _, fun a ha b hb e => ?_⟩
    have h1 := (ord_mem.1 ha).2.2
    have h2 := (sy_mem.1 hb).2
    rw [← e] at h2; omega
/-- by length, and by symbol -/
def Bf (l : List Nat) (i j : Nat) : Prop := l.getD i 0 < l.getD j 0 ∨ (l.getD i 0 = l.getD j 0 ∧ i < j)
theorem ord_sorted (l : List Nat) (n : Nat) : (ord l n).Pairwise (Bf l) := by
  induction n with
  | zero => simp [ord]
  | succ n ih =>
    rw [ord]
    refine List.pairwise_append.2 ⟨ih, ?_, fun a ha b hb => ?_⟩
    · have : (sy l (n + 1)).Pairwise (· < ·) := List.Pairwise.sublist List.filter_sublist (List.pairwise_lt_range)
      refine List.Pairwise.imp_of_mem (fun {a b} ha hb h => ?_) this
      have h1 := (sy_mem.1 ha).2; have h2 := (sy_mem.1 hb).2
      exact .inr ⟨by omega, h⟩
    · have h1 := (ord_mem.1 ha).2.2; have h2 := (sy_mem.1 hb).2
      exact .inl (by omega)
theorem pairwise_uniq {R : Nat → Nat → Prop} (has : ∀ a b, R a b → ¬ R b a) : ∀ {a b : List Nat}, a.Pairwise R → b.Pairwise R → (∀ x, x ∈ a ↔ x ∈ b) → a = b
  | [], [], _, _, _ => rfl
  | [], y :: b, _, _, h => by have := (h y).2 (by simp); simp at this
  | x :: a, [], _, _, h => by have := (h x).1 (by simp); simp at this
  | x :: a, y :: b, ha, hb, h => by
    rw [List.pairwise_cons] at ha hb
    have hxy : x = y := by
      rcases List.mem_cons.1 ((h x).1 (by simp)) with e | h1
      · exact e
      · rcases List.mem_cons.1 ((h y).2 (by simp)) with e | h2
        · exact e.symm
        · exact (has _ _ (hb.1 x h1) (ha.1 y h2)).elim
    subst hxy
    have irr : ¬ R x x := fun hr => has _ _ hr hr
    congr 1
    refine pairwise_uniq has ha.2 hb.2 fun z => ?_
    have hz := h z
    simp only [List.mem_cons] at hz
    constructor
    · intro h1
      rcases hz.1 (.inr h1) with rfl | h2
      · exact (irr (ha.1 _ h1)).elim
      · exact h2
    · intro h1
      rcases hz.2 (.inr h1) with rfl | h2
      · exact (irr (hb.1 _ h1)).elim
      · exact h2
theorem bf_anti (l : List Nat) (a b : Nat) (h : Bf l a b) : ¬ Bf l b a := by unfold Bf at *; omega
/-- what is laid in order is the order -/
theorem ord_uniq {l : List Nat} {n : Nat} {os : List Nat} (h1 : os.Pairwise (Bf l)) (h2 : ∀ i, i ∈ os ↔ i < l.length ∧ 1 ≤ l.getD i 0 ∧ l.getD i 0 ≤ n) : os = ord l n :=
  pairwise_uniq (bf_anti l) h1 (ord_sorted l n) fun x => (h2 x).trans ord_mem.symm
/-- the lengths of symbols -/
def lens (l os : List Nat) : List Nat := os.map fun i => l.getD i 0
/-- the sum ahead of the k-th symbol -/
def Kp (l os : List Nat) (k : Nat) : Nat := kr (lens l (os.take k))
theorem Kp_succ {l os : List Nat} {k : Nat} (h : k < os.length) : Kp l os (k + 1) = Kp l os k + un (l.getD os[k] 0) := by
  unfold Kp lens
  rw [← List.take_append_getElem h, List.map_append, kr_app]; simp [kr]
theorem Kp_mono {l os : List Nat} {a b : Nat} (h : a ≤ b) (hb : b ≤ os.length) : Kp l os a ≤ Kp l os b := by
  induction b with
  | zero => obtain rfl : a = 0 := by omega
            exact Nat.le_refl _
  | succ b ih =>
    by_cases e : a = b + 1
    · subst e; exact Nat.le_refl _
    · have := ih (by omega) (by omega); rw [Kp_succ (by omega)]; omega
/-- the whole sum -/
theorem kr_ord {l : List Nat} (h : ∀ n ∈ l, n ≤ 30) : kr (lens l (ord l 30)) = kr l := by
  have key : ∀ n, kr (lens l (ord l n)) = ((List.range l.length).map fun i => if 1 ≤ l.getD i 0 ∧ l.getD i 0 ≤ n then un (l.getD i 0) else 0).sum := by
    intro n
    induction n with
    | zero =>
      have : ∀ m : Nat, ((List.range m).map fun i => if 1 ≤ l.getD i 0 ∧ l.getD i 0 ≤ 0 then un (l.getD i 0) else 0).sum = 0 := by
        intro m
        induction m with
        | zero => rfl
        | succ m ih => rw [List.range_succ, List.map_append, List.sum_append, ih, List.map_singleton, List.sum_singleton, if_neg (by omega)]
      rw [this]; rfl
    | succ n ih =>
      rw [ord, lens, List.map_append, kr_app]
      have ih : kr ((ord l n).map fun i => l.getD i 0) = _ := ih
      rw [ih]
      have : ∀ m : Nat, ((List.range m).map fun i => if 1 ≤ l.getD i 0 ∧ l.getD i 0 ≤ n then un (l.getD i 0) else 0).sum + kr ((((List.range m).filter fun i => decide (l.getD i 0 = n + 1))).map fun i => l.getD i 0) = ((List.range m).map fun i => if 1 ≤ l.getD i 0 ∧ l.getD i 0 ≤ n + 1 then un (l.getD i 0) else 0).sum := by
        intro m
        induction m with
        | zero => rfl
        | succ m ih =>
          rw [List.range_succ, List.map_append, List.sum_append, List.filter_append, List.map_append, kr_app, List.map_append, List.sum_append, ← ih, List.map_singleton, List.sum_singleton, List.map_singleton, List.sum_singleton]
          by_cases e : l.getD m 0 = n + 1
          · have hf : [m].filter (fun i => decide (l.getD i 0 = n + 1)) = [m] := by simp only [List.filter, decide_eq_true e]
            rw [hf, List.map_singleton]
            rw [if_neg (by omega), if_pos (by omega)]
            simp [kr]; omega
          · have hf : [m].filter (fun i => decide (l.getD i 0 = n + 1)) = [] := by simp only [List.filter, decide_eq_false e]
            rw [hf, List.map_nil]
            by_cases h1 : 1 ≤ l.getD m 0 ∧ l.getD m 0 ≤ n
            · rw [if_pos h1, if_pos (by omega)]; simp [kr]; omega
            · rw [if_neg h1, if_neg (by omega)]; simp [kr]
      exact this _
  rw [key]
  have : ∀ (m : Nat), m ≤ l.length → ((List.range m).map fun i => if 1 ≤ l.getD i 0 ∧ l.getD i 0 ≤ 30 then un (l.getD i 0) else 0).sum = kr (l.take m) := by
    intro m
    induction m with
    | zero => intro _; rfl
    | succ m ih =>
      intro hm
      have hg : l.getD m 0 = l[m] := by rw [List.getD_eq_getElem?_getD, List.getElem?_eq_getElem (by omega)]; rfl
      have h30 := h l[m] (List.getElem_mem _)
      rw [List.range_succ, List.map_append, List.sum_append, ih (by omega), ← List.take_append_getElem (show m < l.length by omega), kr_app, List.map_singleton, List.sum_singleton, hg]
      by_cases h1 : 1 ≤ l[m]
      · rw [if_pos ⟨h1, h30⟩]; simp [kr]
      · rw [if_neg (by omega)]
        have : l[m] = 0 := by omega
        simp [kr, un, this]
  have := this l.length (Nat.le_refl _)
  rw [List.take_length] at this; exact this
/-- the symbols that have a code, in their order -/
theorem od_ex : ∃ f : List Nat → List Nat, ∀ l, f l = ord l 30 := ⟨_, fun _ => rfl⟩
noncomputable def od : List Nat → List Nat := Classical.choose od_ex
theorem od_eq (l : List Nat) : od l = ord l 30 := Classical.choose_spec od_ex l
theorem od_mem {l : List Nat} {i : Nat} : i ∈ od l ↔ i < l.length ∧ 1 ≤ l.getD i 0 ∧ l.getD i 0 ≤ 30 := by rw [od_eq]; exact ord_mem
theorem od_nodup (l : List Nat) : (od l).Nodup := by rw [od_eq]; exact ord_nodup l 30
theorem od_sorted (l : List Nat) : (od l).Pairwise (Bf l) := by rw [od_eq]; exact ord_sorted l 30
theorem od_uniq {l os : List Nat} (h1 : os.Pairwise (Bf l)) (h2 : ∀ i, i ∈ os ↔ i < l.length ∧ 1 ≤ l.getD i 0 ∧ l.getD i 0 ≤ 30) : os = od l := by rw [od_eq]; exact ord_uniq h1 h2
/-- the code of a symbol -/
noncomputable def code (l : List Nat) (i : Nat) : Nat := if l.getD i 0 = 0 then 0 else Kp l (od l) ((od l).idxOf i) / 2 ^ (30 - l.getD i 0)
/-- the sum ahead of a symbol is a multiple of its part -/
theorem Kp_dvd {l os : List Nat} (hs : os.Pairwise (Bf l)) (hm : ∀ i ∈ os, 1 ≤ l.getD i 0 ∧ l.getD i 0 ≤ 30) : ∀ {k n : Nat}, k ≤ os.length → (∀ i ∈ os.take k, l.getD i 0 ≤ n) → n ≤ 30 → 2 ^ (30 - n) ∣ Kp l os k := by
  intro k
  induction k with
  | zero => intro n _ _ _; exact ⟨0, by simp [Kp, lens, kr]⟩
  | succ k ih =>
    intro n hk hle hn
    have hk' : k < os.length := by omega
    rw [Kp_succ hk']
    have hin : os[k] ∈ os.take (k + 1) := by rw [← List.take_append_getElem hk']; exact List.mem_append.2 (.inr (by simp))
    have h1 := hle _ hin
    have h2 := (hm _ (List.getElem_mem hk')).1
    refine Nat.dvd_add (ih (by omega) (fun i hi => hle i (List.take_subset_take_left _ (by omega) hi)) hn) ?_
    rw [un, if_neg (by omega)]
    exact Nat.pow_dvd_pow 2 (by omega)
theorem ahead_le {l os : List Nat} (hs : os.Pairwise (Bf l)) {k : Nat} (hk : k < os.length) : ∀ i ∈ os.take k, l.getD i 0 ≤ l.getD os[k] 0 := fun i hi => by
  obtain ⟨a, ha, rfl⟩ := List.getElem_of_mem hi
  rw [List.length_take] at ha
  rw [List.getElem_take]
  have := List.pairwise_iff_getElem.1 hs a k (by omega) hk (by omega)
  unfold Bf at this; omega
/-- what a code is, exactly -/
theorem code_at {l : List Nat} {k : Nat} (hk : k < (od l).length) : code l (od l)[k] * 2 ^ (30 - l.getD (od l)[k] 0) = Kp l (od l) k ∧ code l (od l)[k] = Kp l (od l) k / 2 ^ (30 - l.getD (od l)[k] 0) := by
  have hm := od_mem.1 (List.getElem_mem hk)
  have hidx : (od l).idxOf (od l)[k] = k := (od_nodup l).idxOf_getElem k hk
  have hd := Kp_dvd (od_sorted l) (fun i hi => (od_mem.1 hi).2) (k := k) (n := l.getD (od l)[k] 0) (by omega) (ahead_le (od_sorted l) hk) hm.2.2
  have e : code l (od l)[k] = Kp l (od l) k / 2 ^ (30 - l.getD (od l)[k] 0) := by unfold code; rw [if_neg (by omega), hidx]
  exact ⟨by rw [e]; exact Nat.div_mul_cancel hd, e⟩
/-! the codes of a code: l is right, its sum at most one -/
section
variable {l : List Nat}
theorem Kp_total (h : ∀ n ∈ l, n ≤ 30) : Kp l (od l) (od l).length = kr l := by
  unfold Kp; rw [List.take_length, od_eq]; exact kr_ord h
theorem idx_lt {i : Nat} (hi : i ∈ od l) : (od l).idxOf i < (od l).length := List.idxOf_lt_length_of_mem hi
theorem idx_get {i : Nat} (hi : i ∈ od l) : (od l)[(od l).idxOf i]'(idx_lt hi) = i := List.getElem_idxOf (idx_lt hi)
/-- where a symbol's part begins -/
noncomputable def Kb (l : List Nat) (i : Nat) : Nat := Kp l (od l) ((od l).idxOf i)
theorem code_mul {i : Nat} (hi : i ∈ od l) : code l i * 2 ^ (30 - l.getD i 0) = Kb l i := by
  have := (code_at (idx_lt hi)).1
  rw [idx_get hi] at this; exact this
theorem Kb_end (h : ∀ n ∈ l, n ≤ 30) {i : Nat} (hi : i ∈ od l) : Kb l i + 2 ^ (30 - l.getD i 0) ≤ kr l := by
  have h1 := Kp_mono (l := l) (os := od l) (show (od l).idxOf i + 1 ≤ (od l).length from idx_lt hi) (Nat.le_refl _)
  have hm := (od_mem.1 hi).2
  rw [Kp_succ (idx_lt hi), idx_get hi, Kp_total h, un, if_neg (by omega)] at h1; exact h1
theorem Kb_next {i j : Nat} (hi : i ∈ od l) (hj : j ∈ od l) (h : Bf l i j) : Kb l i + 2 ^ (30 - l.getD i 0) ≤ Kb l j := by
  have hlt : (od l).idxOf i < (od l).idxOf j := by
    rcases Nat.lt_trichotomy ((od l).idxOf i) ((od l).idxOf j) with h1 | h1 | h1
    · exact h1
    · have e1 := idx_get hi; have e2 := idx_get hj
      have : i = j := by rw [← e1, ← e2]; congr 1
      subst this; exact (bf_anti l i i h h).elim
    · have := List.pairwise_iff_getElem.1 (od_sorted l) _ _ (idx_lt hj) (idx_lt hi) h1
      rw [idx_get hi, idx_get hj] at this
      exact (bf_anti l _ _ this h).elim
  have h1 := Kp_mono (l := l) (os := od l) (show (od l).idxOf i + 1 ≤ (od l).idxOf j from hlt) (Nat.le_of_lt (idx_lt hj))
  have hm := (od_mem.1 hi).2
  rw [Kp_succ (idx_lt hi), idx_get hi, un, if_neg (by omega)] at h1; exact h1
theorem bf_total {i j : Nat} (h : i ≠ j) : Bf l i j ∨ Bf l j i := by unfold Bf; omega
/-- each place below the sum lies in one symbol's part -/
theorem Kb_find (h : ∀ n ∈ l, n ≤ 30) {x : Nat} (hx : x < kr l) : ∃ i ∈ od l, Kb l i ≤ x ∧ x < Kb l i + 2 ^ (30 - l.getD i 0) := by
  have key : ∀ k, k ≤ (od l).length → x < Kp l (od l) k → ∃ a, ∃ ha : a < (od l).length, Kp l (od l) a ≤ x ∧ x < Kp l (od l) (a + 1) := by
    intro k
    induction k with
    | zero => intro _ h0; simp [Kp, lens, kr] at h0
    | succ k ih =>
      intro hk hxk
      by_cases h1 : x < Kp l (od l) k
      · exact ih (by omega) h1
      · exact ⟨k, hk, by omega, hxk⟩
  obtain ⟨a, ha, h1, h2⟩ := key _ (Nat.le_refl _) (by rw [Kp_total h]; exact hx)
  have hm := (od_mem.1 (List.getElem_mem ha)).2
  have hidx : (od l).idxOf (od l)[a] = a := (od_nodup l).idxOf_getElem a ha
  refine ⟨(od l)[a], List.getElem_mem ha, by rw [Kb, hidx]; exact h1, ?_⟩
  rw [Kp_succ ha, un, if_neg (by omega)] at h2
  rw [Kb, hidx]; exact h2
theorem code_lt (h : ∀ n ∈ l, n ≤ 30) (hk : kr l ≤ 2 ^ 30) {i : Nat} (hi : i ∈ od l) : code l i < 2 ^ l.getD i 0 := by
  have h1 := Kb_end h hi
  have h2 := code_mul hi
  have hm := (od_mem.1 hi).2
  have hp : 2 ^ l.getD i 0 * 2 ^ (30 - l.getD i 0) = 2 ^ 30 := by rw [← Nat.pow_add]; congr 1; omega
  have hpos : 0 < 2 ^ (30 - l.getD i 0) := Nat.pow_pos (by decide)
  refine Nat.lt_of_mul_lt_mul_right (a := 2 ^ (30 - l.getD i 0)) ?_
  rw [hp, h2]; omega
/-- the first bits of a longer code -/
theorem front_eq {i k : Nat} (hi : i ∈ od l) (hk : k ∈ od l) (hle : l.getD i 0 ≤ l.getD k 0) : code l k / 2 ^ (l.getD k 0 - l.getD i 0) = Kb l k / 2 ^ (30 - l.getD i 0) := by
  have hm := (od_mem.1 hk).2
  rw [← code_mul hk]
  have e : 2 ^ (30 - l.getD i 0) = 2 ^ (l.getD k 0 - l.getD i 0) * 2 ^ (30 - l.getD k 0) := by rw [← Nat.pow_add]; congr 1; omega
  rw [e, Nat.mul_div_mul_right _ _ (Nat.pow_pos (by decide))]
theorem front_lt {i k : Nat} (hi : i ∈ od l) (hk : k ∈ od l) (hle : l.getD i 0 ≤ l.getD k 0) (hb : Bf l i k) : code l i < code l k / 2 ^ (l.getD k 0 - l.getD i 0) := by
  rw [front_eq hi hk hle]
  have h1 := Kb_next hi hk hb
  have h2 := code_mul hi
  have hpos : 0 < 2 ^ (30 - l.getD i 0) := Nat.pow_pos (by decide)
  rw [Nat.lt_iff_add_one_le, Nat.le_div_iff_mul_le hpos, Nat.add_mul, Nat.one_mul, h2]; exact h1
theorem front_gt {i k : Nat} (hi : i ∈ od l) (hk : k ∈ od l) (he : l.getD i 0 = l.getD k 0) (hb : Bf l k i) : code l k < code l i := by
  have h1 := Kb_next hk hi hb
  have h2 := code_mul hi
  have h3 := code_mul hk
  have hpos : 0 < 2 ^ (30 - l.getD i 0) := Nat.pow_pos (by decide)
  refine Nat.lt_of_mul_lt_mul_right (a := 2 ^ (30 - l.getD i 0)) ?_
  rw [← he] at h1 h3
  rw [h2, h3]; omega
/-- n bits that make v: a code that begins with them -/
def Beg (l : List Nat) (v n : Nat) : Prop := ∃ i ∈ od l, n ≤ l.getD i 0 ∧ code l i / 2 ^ (l.getD i 0 - n) = v
/-- no code is a beginning of them -/
def Non (l : List Nat) (v n : Nat) : Prop := ∀ i ∈ od l, l.getD i 0 ≤ n → v / 2 ^ (n - l.getD i 0) ≠ code l i
theorem beg_iff (h : ∀ n ∈ l, n ≤ 30) {v n : Nat} (hn : n ≤ 30) (hno : Non l v n) : Beg l v n ↔ v * 2 ^ (30 - n) < kr l := by
  constructor
  · rintro ⟨i, hi, hle, rfl⟩
    have h1 := Kb_end h hi
    have hm := (od_mem.1 hi).2
    have h2 := code_mul hi
    have e : 2 ^ (30 - n) = 2 ^ (l.getD i 0 - n) * 2 ^ (30 - l.getD i 0) := by rw [← Nat.pow_add]; congr 1; omega
    have h3 := Nat.div_mul_le_self (code l i) (2 ^ (l.getD i 0 - n))
    have h4 := Nat.mul_le_mul_right (2 ^ (30 - l.getD i 0)) h3
    have hpos : 0 < 2 ^ (30 - l.getD i 0) := Nat.pow_pos (by decide)
    rw [e, ← Nat.mul_assoc]; omega
  · intro hx
    obtain ⟨i, hi, h1, h2⟩ := Kb_find h hx
    have hm := (od_mem.1 hi).2
    have hc := code_mul hi
    have hpos : 0 < 2 ^ (30 - l.getD i 0) := Nat.pow_pos (by decide)
    by_cases hle : l.getD i 0 ≤ n
    · exfalso
      refine hno i hi hle ?_
      have e : 2 ^ (30 - l.getD i 0) = 2 ^ (n - l.getD i 0) * 2 ^ (30 - n) := by rw [← Nat.pow_add]; congr 1; omega
      have e2 : v / 2 ^ (n - l.getD i 0) = v * 2 ^ (30 - n) / 2 ^ (30 - l.getD i 0) := by rw [e, Nat.mul_div_mul_right _ _ (Nat.pow_pos (by decide))]
      rw [e2]
      rw [← hc] at h1 h2
      refine Nat.div_eq_of_lt_le h1 ?_
      rw [Nat.add_mul, Nat.one_mul]; exact h2
    · refine ⟨i, hi, by omega, ?_⟩
      have e : 2 ^ (30 - n) = 2 ^ (l.getD i 0 - n) * 2 ^ (30 - l.getD i 0) := by rw [← Nat.pow_add]; congr 1; omega
      have hmul : v * 2 ^ (30 - n) = v * 2 ^ (l.getD i 0 - n) * 2 ^ (30 - l.getD i 0) := by rw [e, Nat.mul_assoc]
      rw [hmul, ← hc] at h1 h2
      have g1 := Nat.le_of_mul_le_mul_right h1 hpos
      have g2 : v * 2 ^ (l.getD i 0 - n) < code l i + 1 := by
        refine Nat.lt_of_mul_lt_mul_right (a := 2 ^ (30 - l.getD i 0)) ?_
        rw [Nat.add_mul, Nat.one_mul]; exact h2
      have g3 : code l i = v * 2 ^ (l.getD i 0 - n) := by omega
      rw [g3]; exact Nat.mul_div_cancel _ (Nat.pow_pos (by decide))
end
end Go.Proofs.YtcmgbjmcklfkcaaDoor.Pf
