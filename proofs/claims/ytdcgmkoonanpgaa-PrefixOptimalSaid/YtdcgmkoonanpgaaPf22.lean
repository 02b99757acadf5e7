
/- prefix: symMerge, plain. -/
import Derived.Test.YtdcgmkoonanpgaaPf21
namespace Go.Proofs.Ytdcgmkoonanpgaa
set_option linter.unusedSimpArgs false
set_option linter.unusedVariables false
open Go.RowKit Sym

theorem srt_take {α : Type} {g : α → Nat} {l : List α} {u : Nat} (h : Srt g l) (hu : u ≤ l.length) {w : Nat} (hw : u = 0 ∨ (l.map g).getD (u - 1) 0 ≤ w) : ∀ z ∈ l.take u, g z ≤ w := by
  intro z hz
  obtain ⟨k, hk, rfl⟩ := List.getElem_of_mem hz
  rw [List.length_take] at hk
  have hu' : u - 1 < l.length := by omega
  have hg : (l.map g).getD (u - 1) 0 = g l[u - 1] := by rw [List.getD_eq_getElem?_getD, List.getElem?_map, List.getElem?_eq_getElem hu']; rfl
  rw [List.getElem_take]
  rcases hw with hw | hw
  · omega
  · rw [hg] at hw
    by_cases e : k = u - 1
    · subst e; exact hw
    · have := List.pairwise_iff_getElem.1 h k (u - 1) (by omega) hu' (by omega)
      omega
theorem srt_drop {α : Type} {g : α → Nat} {l : List α} {u : Nat} (h : Srt g l) {w : Nat} (hw : u = l.length ∨ w ≤ (l.map g).getD u 0) : ∀ z ∈ l.drop u, w ≤ g z := by
  intro z hz
  obtain ⟨k, hk, rfl⟩ := List.getElem_of_mem hz
  rw [List.length_drop] at hk
  have hu' : u < l.length := by omega
  have hg : (l.map g).getD u 0 = g l[u] := by rw [List.getD_eq_getElem?_getD, List.getElem?_map, List.getElem?_eq_getElem hu']; rfl
  rw [List.getElem_drop]
  rcases hw with hw | hw
  · omega
  · rw [hg] at hw
    by_cases e : k = 0
    · subst e; exact hw
    · have := List.pairwise_iff_getElem.1 h u (u + k) hu' (by omega) (by omega)
      omega
/-- one element merged into a run behind it -/
theorem mrg_one {α : Type} {g : α → Nat} {x : α} {l : List α} {u : Nat} (h : Srt g l) (hu : u ≤ l.length) (h1 : u = 0 ∨ (l.map g).getD (u - 1) 0 < g x) (h2 : u = l.length ∨ g x ≤ (l.map g).getD u 0) : mrg g [x] l = l.take u ++ x :: l.drop u := by
  have a1 : ∀ z ∈ l.take u, g z < g x := fun z hz => by
    rcases Nat.eq_zero_or_pos (g x) with e | e
    · have : u = 0 := by omega
      subst this; simp at hz
    · have := srt_take h hu (w := g x - 1) (by omega) z hz; omega
  have a2 := srt_drop h h2
  have e1 := mrg_split (g := g) [] (l.take u) [x] (l.drop u) (fun y hy => by cases hy) (fun y hy z hz => by rw [List.mem_singleton] at hz; subst hz; exact a1 y hy)
  have e2 := mrg_split (g := g) [x] [] [] (l.drop u) (fun y hy z hz => by rw [List.mem_singleton] at hy; subst hy; exact a2 z hz) (fun y hy => by cases hy)
  rw [List.take_append_drop, List.nil_append, mrg] at e1
  rw [List.append_nil, List.nil_append, mrg_nil, mrg] at e2
  rw [e1, e2]; rfl
/-- one element merged into a run ahead of it -/
theorem mrg_two {α : Type} {g : α → Nat} {y : α} {l : List α} {u : Nat} (h : Srt g l) (hu : u ≤ l.length) (h1 : u = 0 ∨ (l.map g).getD (u - 1) 0 ≤ g y) (h2 : u = l.length ∨ g y < (l.map g).getD u 0) : mrg g l [y] = l.take u ++ y :: l.drop u := by
  have a1 := srt_take h hu h1
  have a2 := srt_drop (u := u) h (w := g y + 1) (by omega)
  have e1 := mrg_split (g := g) (l.take u) [] (l.drop u) [y] (fun x hx z hz => by rw [List.mem_singleton] at hz; subst hz; exact a1 x hx) (fun x hx => by cases hx)
  have e2 := mrg_split (g := g) [] [y] (l.drop u) [] (fun x hx => by cases hx) (fun z hz x hx => by rw [List.mem_singleton] at hz; subst hz; have := a2 x hx; omega)
  rw [List.take_append_drop, List.nil_append, mrg_nil] at e1
  rw [List.append_nil, List.nil_append, mrg_nil, mrg] at e2
  rw [e1, e2]; rfl
end Go.Proofs.Ytdcgmkoonanpgaa
