/- Flood fill, as plain mathematics. -/
import Derived.Test.YtnnmebpahickhaaNb
import Derived.Test.YtnnmebpahickhaaLab
namespace Go.Proofs.Ytnnmebpahickhaa
set_option linter.unusedSimpArgs false
set_option linter.unusedVariables false
open Uf

/-- a set of pixels of the colour that holds all neighbours of the colour of its pixels holds whole components -/
theorem flood_closed {W H : Nat} {eight : Bool} {dk : List Bool} {dark : Bool} (hW : 0 < W) (hn : dk.length = W * H) {S : Nat → Prop} (hS : ∀ i j, S i → dk[j]? = some dark → Nb W H eight i j → S j) {i j : Nat} (h : Cl (Ed W eight dk dark dk.length) i j) : S i ↔ S j := by
  induction h with
  | refl i => exact Iff.rfl
  | edge e =>
    obtain ⟨h1, h2, h3, h4⟩ := e
    have hi := (List.getElem?_eq_some_iff.1 h2).1
    have hj := (List.getElem?_eq_some_iff.1 h3).1
    obtain ⟨n1, n2⟩ := back_nb (H := H) hW (by omega) (by omega) h4
    exact ⟨fun h => hS _ _ h h3 n1, fun h => hS _ _ h h2 n2⟩
  | symm _ ih => exact ih.symm
  | trans _ _ ih1 ih2 => exact ih1.trans ih2
/-- a neighbour of the colour is joined -/
theorem nb_joined {W H : Nat} {eight : Bool} {dk : List Bool} {dark : Bool} (hW : 0 < W) {i j : Nat} (hi : dk[i]? = some dark) (hj : dk[j]? = some dark) (h : Nb W H eight i j) : Cl (Ed W eight dk dark dk.length) i j := by
  have li := (List.getElem?_eq_some_iff.1 hi).1
  have lj := (List.getElem?_eq_some_iff.1 hj).1
  rcases nb_back hW h with h | h
  · exact .edge ⟨li, hi, hj, h⟩
  · exact .symm (.edge ⟨lj, hj, hi, h⟩)
/-- while one component is filled: found are its pixels so far, i of them have been gone through -/
structure Fl (W H : Nat) (eight : Bool) (dk : List Bool) (dark : Bool) (f : Nat) (num : Int) (lab0 lab : List Int) (found : List Nat) (i : Nat) : Prop where
  len : lab.length = lab0.length
  nodup : found.Nodup
  head : found[0]? = some f
  ins : ∀ j ∈ found, dk[j]? = some dark ∧ Cl (Ed W eight dk dark dk.length) f j
  lab : ∀ j : Nat, lab[j]? = if j ∈ found then (lab0[j]?).map (fun _ => num) else lab0[j]?
  done : ∀ t j : Nat, t < i → ∀ p, found[t]? = some p → dk[j]? = some dark → Nb W H eight p j → j ∈ found
section
variable {W H : Nat} {eight : Bool} {dk : List Bool} {dark : Bool} {f : Nat} {num : Int} {lab0 lab : List Int} {found : List Nat} {i : Nat}
/-- at the end: exactly the component -/
theorem Fl.all (h : Fl W H eight dk dark f num lab0 lab found found.length) (hW : 0 < W) (hn : dk.length = W * H) (j : Nat) : j ∈ found ↔ dk[j]? = some dark ∧ Cl (Ed W eight dk dark dk.length) f j := by
  refine ⟨h.ins j, fun ⟨_, hR⟩ => ?_⟩
  have hf : f ∈ found := List.mem_of_getElem? h.head
  refine (flood_closed hW hn (S := (· ∈ found)) (fun a b ha hb hab => ?_) hR).1 hf
  obtain ⟨t, ht, rfl⟩ := List.mem_iff_getElem.1 ha
  exact h.done t b ht _ (List.getElem?_eq_getElem ht) hb hab
/-- a pixel more -/
theorem Fl.push {j : Nat} (h : Fl W H eight dk dark f num lab0 lab found i) (hW : 0 < W) {p : Nat} (hp : p ∈ found) (hj : dk[j]? = some dark) (hnb : Nb W H eight p j) (hnew : j ∉ found) (hi : i ≤ found.length) : Fl W H eight dk dark f num lab0 (lab.set j num) (found ++ [j]) i where
  len := by rw [List.length_set]; exact h.len
  nodup := by
    rw [List.nodup_append]
    exact ⟨h.nodup, by simp, fun a ha b hb => by
      have : b = j := by simpa using hb
      subst this; intro e; exact hnew (e ▸ ha)⟩
  head := by
    have hlt := (List.getElem?_eq_some_iff.1 h.head).1
    rw [List.getElem?_append_left hlt]; exact h.head
  ins a ha := by
    rcases List.mem_append.1 ha with ha | ha
    · exact h.ins a ha
    · have : a = j := by simpa using ha
      subst this
      exact ⟨hj, (h.ins p hp).2.trans (nb_joined hW (h.ins p hp).1 hj hnb)⟩
  lab a := by
    by_cases e : j = a
    · subst e
      rw [if_pos (by simp)]
      by_cases hl : j < lab.length
      · rw [List.getElem?_set_self hl, List.getElem?_eq_getElem (by have := h.len; omega)]; rfl
      · rw [List.getElem?_eq_none (by rw [List.length_set]; omega), List.getElem?_eq_none (by have := h.len; omega)]; rfl
    · rw [List.getElem?_set_ne e, h.lab a]
      by_cases ha : a ∈ found
      · rw [if_pos ha, if_pos (by simp [ha])]
      · rw [if_neg ha, if_neg (by simp [ha]; exact fun h => e h.symm)]
  done t b ht q hq hb hqb := by
    rw [List.getElem?_append_left (by omega)] at hq
    exact List.mem_append.2 (.inl (h.done t b ht q hq hb hqb))
theorem Fl.next (h : Fl W H eight dk dark f num lab0 lab found i) {p : Nat} (hp : found[i]? = some p) (hall : ∀ j : Nat, dk[j]? = some dark → Nb W H eight p j → j ∈ found) : Fl W H eight dk dark f num lab0 lab found (i + 1) := by
  refine ⟨h.len, h.nodup, h.head, h.ins, h.lab, fun t j ht q hq hj hqj => ?_⟩
  by_cases e : t = i
  · subst e; rw [hp] at hq; cases hq; exact hall j hj hqj
  · exact h.done t j (by omega) q hq hj hqj
theorem Fl.start (hf : dk[f]? = some dark) (hl : f < lab0.length) : Fl W H eight dk dark f num lab0 (lab0.set f num) [f] 0 where
  len := by rw [List.length_set]
  nodup := by simp
  head := rfl
  ins j hj := by
    have : j = f := by simpa using hj
    subst this; exact ⟨hf, .refl _⟩
  lab j := by
    by_cases e : f = j
    · subst e; rw [List.getElem?_set_self hl, if_pos (by simp), List.getElem?_eq_getElem hl]; rfl
    · rw [List.getElem?_set_ne e, if_neg (by simp; exact fun h => e h.symm)]
  done t j ht := by omega
end
end Go.Proofs.Ytnnmebpahickhaa
