
/- components: what Extract answers. -/
import Derived.Test.YtnnmebpahickhaaDesp
import Derived.Test.YtnnmebpahickhaaHoles
namespace Go.Proofs.Ytnnmebpahickhaa
set_option linter.unusedSimpArgs false
set_option linter.unusedVariables false
open Go.RowKit Sym Uf

def extf (labels : List Int) (a x y p : Nat) (num : Int) (t : Nat) : Bool := decide (labels.getD ((y + t / p) * a + x + t % p) 0 = num)
/-- the box lies in the bitmap -/
def InB (W Ht bx by_ bw bh : Int) : Prop := 0 ≤ bx ∧ 0 ≤ by_ ∧ 1 ≤ bw ∧ 1 ≤ bh ∧ bw ≤ W ∧ bh ≤ Ht ∧ bx ≤ W - bw ∧ by_ ≤ Ht - bh
def ExtSp (W Ht : Int) (n : Nat) (labels : List Int) (bx by_ bw bh num W1 H1 : Int) (l : List Bool) (e : Int) : Prop :=
  (¬ (okMat W Ht n ∧ (labels.length : Int) = W * Ht) ∧ W1 = 0 ∧ H1 = 0 ∧ l = [] ∧ e = 1) ∨
  ((okMat W Ht n ∧ (labels.length : Int) = W * Ht) ∧ ¬ InB W Ht bx by_ bw bh ∧ W1 = 0 ∧ H1 = 0 ∧ l = [] ∧ e = 3) ∨
  ((okMat W Ht n ∧ (labels.length : Int) = W * Ht) ∧ InB W Ht bx by_ bw bh ∧ W1 = bw ∧ H1 = bh ∧ e = 0 ∧ l = tab (bw.toNat * bh.toNat) (extf labels W.toNat bx.toNat by_.toNat bw.toNat num))
theorem ExtSp.det {W Ht : Int} {n : Nat} {labels : List Int} {bx by_ bw bh num W1 H1 W2 H2 : Int} {l m : List Bool} {e g : Int} (h : ExtSp W Ht n labels bx by_ bw bh num W1 H1 l e) (k : ExtSp W Ht n labels bx by_ bw bh num W2 H2 m g) : W1 = W2 ∧ H1 = H2 ∧ l = m ∧ e = g := by
  rcases h with ⟨h0, rfl, rfl, rfl, rfl⟩ | ⟨h0, h1, rfl, rfl, rfl, rfl⟩ | ⟨h0, h1, rfl, rfl, rfl, rfl⟩ <;> rcases k with ⟨k0, rfl, rfl, rfl, rfl⟩ | ⟨k0, k1, rfl, rfl, rfl, rfl⟩ | ⟨k0, k1, rfl, rfl, rfl, rfl⟩ <;> first | exact ⟨rfl, rfl, rfl, rfl⟩ | exact (h0 k0).elim | exact (k0 h0).elim | exact (h1 k1).elim | exact (k1 h1).elim
theorem extf_at {labels : List Int} {a x y p : Nat} {num : Int} {i j : Nat} (hi : i < p) (hl : (y + j) * a + x + i < labels.length) : extf labels a x y p num (j * p + i) = decide (labels[(y + j) * a + x + i] = num) := by
  obtain ⟨e1, e2⟩ := divmod_of (W := p) (j := j * p + i) rfl hi
  simp [extf, e1, e2, hl]
theorem ext_lt {a b x y p q i j : Nat} (hx : x + p ≤ a) (hy : y + q ≤ b) (hi : i < p) (hj : j < q) : (y + j) * a + x + i < a * b := by
  have := row_lt (a := a) (b := b) (x := x + i) (y := y + j) (by omega) (by omega)
  omega
end Go.Proofs.Ytnnmebpahickhaa
