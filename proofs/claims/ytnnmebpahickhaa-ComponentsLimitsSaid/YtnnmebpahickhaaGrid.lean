/- Pixels of a bitmap that are neighbours; what sets knows while it goes through them. -/
import Derived.Test.YtnnmebpahickhaaUnite
namespace Go.Proofs.Ytnnmebpahickhaa
set_option linter.unusedSimpArgs false
set_option linter.unusedVariables false
open Go.RowKit Sym Uf

/-- the neighbours of pixel i that come ahead of it -/
def Back (W : Nat) (eight : Bool) (i j : Nat) : Prop := ((0 < i % W ∧ j + 1 = i) ∨ (0 < i / W ∧ j + W = i)) ∨ (eight = true ∧ 0 < i / W ∧ 0 < i % W ∧ j + W + 1 = i) ∨ (eight = true ∧ 0 < i / W ∧ i % W + 1 < W ∧ j + W = i + 1)
/-- the pairs of neighbours of the colour, the first of them before k -/
def Ed (W : Nat) (eight : Bool) (dk : List Bool) (dark : Bool) (k i j : Nat) : Prop := i < k ∧ dk[i]? = some dark ∧ dk[j]? = some dark ∧ Back W eight i j
def Dm (dk : List Bool) (dark : Bool) (k i : Nat) : Prop := i < k ∧ dk[i]? = some dark
theorem Back.le {W : Nat} {eight : Bool} {i j : Nat} (h : Back W eight i j) : j ≤ i := by
  rcases h with (⟨_, h⟩ | ⟨_, h⟩) | ⟨_, _, _, h⟩ | ⟨_, _, h1, h⟩ <;> omega
theorem Ed.in {W : Nat} {eight : Bool} {dk : List Bool} {dark : Bool} {k i j : Nat} (h : Ed W eight dk dark k i j) : Dm dk dark k i ∧ Dm dk dark k j := ⟨⟨h.1, h.2.1⟩, ⟨by have := h.2.2.2.le; have := h.1; omega, h.2.2.1⟩⟩
/-- while the neighbours of pixel k are joined: p are those that have been -/
def Es (W : Nat) (eight : Bool) (dk : List Bool) (dark : Bool) (k : Nat) (p : Nat → Prop) (i j : Nat) : Prop := Ed W eight dk dark k i j ∨ (i = k ∧ dk[j]? = some dark ∧ p j)
theorem Says.iff {par : List Int} {D D' : Nat → Prop} {E F : Nat → Nat → Prop} (h : Says par D E) (hD : ∀ i, D i ↔ D' i) (hE : ∀ i j, E i j ↔ F i j) : Says par D' F := by
  have e1 : D = D' := funext fun i => propext (hD i)
  have e2 : E = F := funext fun i => funext fun j => propext (hE i j)
  rw [← e1, ← e2]; exact h
/-- what is known while pixel k is looked at -/
structure Stg (wk w' : World) (B : Nat) (c : SV) (n W : Nat) (eight : Bool) (k : Nat) (p : Nat → Prop) (par siz : List Int) : Prop where
  sw : SW w' B c par siz
  pl : par.length = n
  zl : siz.length = n
  fr : Fr B wk w'
  says : Says par (Dm c.dk c.dark (k + 1)) (Es W eight c.dk c.dark k p)
  light : ∀ i : Nat, i < k → c.dk[i]? ≠ some c.dark → par[i]? = some (-1)
section
variable {wk w' w'' : World} {B : Nat} {c : SV} {n W : Nat} {eight : Bool} {k : Nat} {p q : Nat → Prop} {par par' siz siz' : List Int}
theorem Stg.iff (h : Stg wk w' B c n W eight k p par siz) (hp : ∀ j, p j ↔ q j) : Stg wk w' B c n W eight k q par siz :=
  { h with says := Says.iff h.says (fun _ => Iff.rfl) (fun i j => by unfold Es; rw [hp j]) }
theorem Stg.step {b : Nat} (h : Stg wk w' B c n W eight k p par siz) (u : UPost w' w'' B c par n (Dm c.dk c.dark (k + 1)) (Es W eight c.dk c.dark k p) k b par' siz') : Stg wk w'' B c n W eight k (fun j => p j ∨ j = b) par' siz' where
  sw := u.sw
  pl := u.pl
  zl := u.zl
  fr := h.fr.trans u.fr
  says := Says.iff u.says (fun _ => Iff.rfl) fun i j => by
    unfold Es
    constructor
    · rintro ((h1 | ⟨h1, h2, h3⟩) | ⟨h1, h2, rfl⟩)
      · exact .inl h1
      · exact .inr ⟨h1, h2, .inl h3⟩
      · exact .inr ⟨h2, h1, .inr rfl⟩
    · rintro (h1 | ⟨h1, h2, h3 | rfl⟩)
      · exact .inl (.inl h1)
      · exact .inl (.inr ⟨h1, h2, h3⟩)
      · exact .inr ⟨h2, h1, rfl⟩
  light i hi hd := by rw [u.out i (fun hD => hd hD.2)]; exact h.light i hi hd
theorem Stg.ext (h : Stg wk w' B c n W eight k p par siz) (x : Ext w' w'') : Stg wk w'' B c n W eight k p par siz := { h with sw := h.sw.ext x, fr := h.fr.trans (Fr.ext x) }
end
theorem row_lo {k W : Nat} (h : 0 < k / W) : W + k % W ≤ k := by
  have h1 := Nat.div_add_mod k W
  have h2 := Nat.mul_le_mul_left W (show 1 ≤ k / W from h)
  omega
/-- a Comp at the end: the element itself points at its root -/
theorem Comp.last {n i r : Nat} {par par1 : List Int} (h : Comp n i par par1) (hr : Root par i r) : ∃ m, Comp m i par (par1.set i (r : Int)) := by
  obtain ⟨m, hm⟩ := hr
  refine ⟨max n m, by simpa using h.1, fun k => ?_⟩
  by_cases e : i = k
  · subst e
    exact .inr ⟨m, r, by omega, hm, by rw [List.getElem?_set_self (by rw [h.1]; exact hm.lt)], fun D hD _ => hD⟩
  · rw [List.getElem?_set_ne e]
    rcases h.2 k with h1 | ⟨a, b, h2, h3⟩
    · exact .inl h1
    · exact .inr ⟨a, b, by omega, h3⟩
theorem Comp.val {n o : Nat} {par par' : List Int} (h : Comp n o par par') {j r : Nat} (hv : par[j]? = some (r : Int)) (hr : Root par j r) : par'[j]? = some (r : Int) := by
  rcases h.2 j with h1 | ⟨a, b, _, h3, h4, _⟩
  · rw [h1]; exact hv
  · have : b = r := Root.det ⟨a, h3⟩ hr
    rw [h4, this]
/-- the answer of sets -/
structure Parted (W : Nat) (eight : Bool) (dk : List Bool) (dark : Bool) (s : List Int) : Prop where
  len : s.length = dk.length
  off : ∀ i : Nat, dk[i]? = some (!dark) → s[i]? = some (-1)
  on : ∀ i : Nat, dk[i]? = some dark → ∃ r : Nat, dk[r]? = some dark ∧ s[i]? = some (r : Int)
  same : ∀ (i j : Nat) (z : Int), dk[i]? = some dark → dk[j]? = some dark → s[i]? = some z → (s[j]? = some z ↔ Cl (Ed W eight dk dark dk.length) i j)
end Go.Proofs.Ytnnmebpahickhaa
