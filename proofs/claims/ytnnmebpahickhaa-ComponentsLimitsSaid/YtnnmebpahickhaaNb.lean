/- The neighbours that the reference goes through are those that sets joins. -/
import Derived.Test.YtnnmebpahickhaaNear
namespace Go.Proofs.Ytnnmebpahickhaa
set_option linter.unusedSimpArgs false
set_option linter.unusedVariables false
open Go.RowKit Sym Uf

theorem divmod_of {W j y x : Nat} (h : j = y * W + x) (hx : x < W) : j / W = y ∧ j % W = x := by
  subst h
  constructor
  · rw [Nat.add_comm, Nat.add_mul_div_right _ _ (by omega), Nat.div_eq_of_lt hx, Nat.zero_add]
  · rw [Nat.add_comm, Nat.add_mul_mod_self_right, Nat.mod_eq_of_lt hx]
/-- j is a neighbour of i in a bitmap of W times H pixels -/
def Nb (W H : Nat) (eight : Bool) (i j : Nat) : Prop := ∃ a b : Int, -1 ≤ a ∧ a ≤ 1 ∧ -1 ≤ b ∧ b ≤ 1 ∧ Step W H eight ((i % W : Nat) : Int) ((i / W : Nat) : Int) a b ∧ (j : Int) = (((i / W : Nat) : Int) + b) * W + ((i % W : Nat) : Int) + a
theorem nb_coord {W H : Nat} {eight : Bool} {i j : Nat} (h : Nb W H eight i j) : ∃ a b : Int, -1 ≤ a ∧ a ≤ 1 ∧ -1 ≤ b ∧ b ≤ 1 ∧ ¬ ((a = 0 ∧ b = 0) ∨ (eight = false ∧ a ≠ 0 ∧ b ≠ 0)) ∧ ((j % W : Nat) : Int) = ((i % W : Nat) : Int) + a ∧ ((j / W : Nat) : Int) = ((i / W : Nat) : Int) + b := by
  obtain ⟨a, b, h1, h2, h3, h4, ⟨h5, h6, h7, h8, h9⟩, h10⟩ := h
  obtain ⟨x, hx⟩ : ∃ x : Nat, ((i % W : Nat) : Int) + a = x := ⟨(((i % W : Nat) : Int) + a).toNat, by omega⟩
  obtain ⟨y, hy⟩ : ∃ y : Nat, ((i / W : Nat) : Int) + b = y := ⟨(((i / W : Nat) : Int) + b).toNat, by omega⟩
  have hj : j = y * W + x := by
    rw [hy, Int.add_assoc, hx] at h10
    have : (j : Int) = ((y * W + x : Nat) : Int) := by rw [h10]; simp
    exact Int.ofNat.inj this
  obtain ⟨e1, e2⟩ := divmod_of hj (by omega)
  exact ⟨a, b, h1, h2, h3, h4, h5, by rw [e2]; exact hx.symm, by rw [e1]; exact hy.symm⟩
theorem nb_back {W H : Nat} {eight : Bool} {i j : Nat} (hW : 0 < W) (h : Nb W H eight i j) : Back W eight i j ∨ Back W eight j i := by
  obtain ⟨a, b, h1, h2, h3, h4, h5, h6, h7⟩ := nb_coord h
  have di := Nat.div_add_mod i W
  have dj := Nat.div_add_mod j W
  have li := Nat.mod_lt i hW
  have lj := Nat.mod_lt j hW
  have hm : ∀ y : Nat, W * (y + 1) = W * y + W := fun y => Nat.mul_succ W y
  unfold Back
  clear h
  generalize i / W = yi at *
  generalize j / W = yj at *
  generalize i % W = xi at *
  generalize j % W = xj at *
  have hb : b = -1 ∨ b = 0 ∨ b = 1 := by omega
  have ha : a = -1 ∨ a = 0 ∨ a = 1 := by omega
  rcases hb with rfl | rfl | rfl
  · have e : yi = yj + 1 := by omega
    rw [e, hm] at di
    left
    rcases ha with rfl | rfl | rfl
    · refine .inr (.inl ⟨?_, by omega, by omega, by omega⟩)
      cases eight with
      | true => rfl
      | false => exact (h5 (.inr ⟨rfl, by omega, by omega⟩)).elim
    · exact .inl (.inr ⟨by omega, by omega⟩)
    · refine .inr (.inr ⟨?_, by omega, by omega, by omega⟩)
      cases eight with
      | true => rfl
      | false => exact (h5 (.inr ⟨rfl, by omega, by omega⟩)).elim
  · have e : yi = yj := by omega
    rw [e] at di
    rcases ha with rfl | rfl | rfl
    · exact .inl (.inl (.inl ⟨by omega, by omega⟩))
    · exact (h5 (.inl ⟨rfl, rfl⟩)).elim
    · exact .inr (.inl (.inl ⟨by omega, by omega⟩))
  · have e : yj = yi + 1 := by omega
    rw [e, hm] at dj
    right
    rcases ha with rfl | rfl | rfl
    · refine .inr (.inr ⟨?_, by omega, by omega, by omega⟩)
      cases eight with
      | true => rfl
      | false => exact (h5 (.inr ⟨rfl, by omega, by omega⟩)).elim
    · exact .inl (.inr ⟨by omega, by omega⟩)
    · refine .inr (.inl ⟨?_, by omega, by omega, by omega⟩)
      cases eight with
      | true => rfl
      | false => exact (h5 (.inr ⟨rfl, by omega, by omega⟩)).elim
theorem nb_mk {W H : Nat} {eight : Bool} {i j : Nat} (hj : j < W * H) {a b : Int} (h1 : -1 ≤ a ∧ a ≤ 1 ∧ -1 ≤ b ∧ b ≤ 1) (h5 : ¬ ((a = 0 ∧ b = 0) ∨ (eight = false ∧ a ≠ 0 ∧ b ≠ 0))) (hx : ((j % W : Nat) : Int) = ((i % W : Nat) : Int) + a) (hy : ((j / W : Nat) : Int) = ((i / W : Nat) : Int) + b) : Nb W H eight i j := by
  have hW : 0 < W := by rcases Nat.eq_zero_or_pos W with h | h; · simp [h] at hj
                        · exact h
  have lj := Nat.mod_lt j hW
  have hH : j / W < H := Nat.div_lt_of_lt_mul hj
  refine ⟨a, b, h1.1, h1.2.1, h1.2.2.1, h1.2.2.2, ⟨h5, by rw [← hx]; exact Int.natCast_nonneg _, by rw [← hx]; exact Int.ofNat_lt.2 lj, by rw [← hy]; exact Int.natCast_nonneg _, by rw [← hy]; exact Int.ofNat_lt.2 hH⟩, ?_⟩
  rw [← hy, Int.add_assoc, ← hx]
  have := Nat.div_add_mod j W
  rw [Nat.mul_comm] at this
  have h2 : ((j / W * W + j % W : Nat) : Int) = (j : Int) := by rw [this]
  rw [← h2]; simp
theorem back_nb {W H : Nat} {eight : Bool} {i j : Nat} (hW : 0 < W) (hi : i < W * H) (hj : j < W * H) (h : Back W eight i j) : Nb W H eight i j ∧ Nb W H eight j i := by
  have di := Nat.div_add_mod i W
  have dj := Nat.div_add_mod j W
  have li := Nat.mod_lt i hW
  have lj := Nat.mod_lt j hW
  have key : ∀ x y : Nat, j = y * W + x → x < W → j / W = y ∧ j % W = x := fun x y h hx => divmod_of h hx
  have hc : i / W * W + i % W = i := Nat.div_add_mod' i W
  have hs : ∀ y : Nat, 0 < y → (y - 1) * W + W = y * W := fun y hy => by
    rw [← Nat.succ_mul]; congr 1; omega
  rcases h with (⟨h1, h2⟩ | ⟨h1, h2⟩) | ⟨he, h1, h2, h3⟩ | ⟨he, h1, h2, h3⟩
  · obtain ⟨e1, e2⟩ := key (i % W - 1) (i / W) (by omega) (by omega)
    exact ⟨nb_mk hj (a := -1) (b := 0) (by omega) (by simp) (by rw [e2]; omega) (by rw [e1]; omega), nb_mk hi (a := 1) (b := 0) (by omega) (by simp) (by rw [e2]; omega) (by rw [e1]; omega)⟩
  · have := hs (i / W) h1
    obtain ⟨e1, e2⟩ := key (i % W) (i / W - 1) (by omega) (by omega)
    exact ⟨nb_mk hj (a := 0) (b := -1) (by omega) (by simp) (by rw [e2]; omega) (by rw [e1]; omega), nb_mk hi (a := 0) (b := 1) (by omega) (by simp) (by rw [e2]; omega) (by rw [e1]; omega)⟩
  · have := hs (i / W) h1
    obtain ⟨e1, e2⟩ := key (i % W - 1) (i / W - 1) (by omega) (by omega)
    exact ⟨nb_mk hj (a := -1) (b := -1) (by omega) (by simp [he]) (by rw [e2]; omega) (by rw [e1]; omega), nb_mk hi (a := 1) (b := 1) (by omega) (by simp [he]) (by rw [e2]; omega) (by rw [e1]; omega)⟩
  · have := hs (i / W) h1
    obtain ⟨e1, e2⟩ := key (i % W + 1) (i / W - 1) (by omega) (by omega)
    exact ⟨nb_mk hj (a := 1) (b := -1) (by omega) (by simp [he]) (by rw [e2]; omega) (by rw [e1]; omega), nb_mk hi (a := -1) (b := 1) (by omega) (by simp [he]) (by rw [e2]; omega) (by rw [e1]; omega)⟩
end Go.Proofs.Ytnnmebpahickhaa
