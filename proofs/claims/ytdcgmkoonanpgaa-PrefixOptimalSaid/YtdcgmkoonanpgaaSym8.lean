/- The walk by named slots: slices of the call's own, with elements of several cells. For whatever program. -/
import Derived.Test.YtdcgmkoonanpgaaSym7
namespace Go.Proofs.Ytdcgmkoonanpgaa.Sym
set_option linter.unusedSimpArgs false
set_option linter.unusedVariables false
open Go.RowKit

theorem Own.setAt {w : World} {B : Nat} {e : TypeId} {sz n : Nat} {v : Value} {cs : List Value} (h : Own w B e sz v n cs) {j : Nat} (hj : j < cs.length) (u : Value) : Own (w.setCell (el v j) u) B e sz v n (cs.set j u) := by
  obtain ⟨hl, h2⟩ := h
  refine ⟨by simpa using hl, ?_⟩
  rcases h2 with ⟨rfl, h0⟩ | ⟨g, cap, cur, rfl, hb, hg, hn, hm, hs, ht⟩
  · subst h0; simp at hl; subst hl; simp at hj
  · refine .inr ⟨g, cap, cur.setIfInBounds j u, rfl, hb, ?_, hn, hm, by simpa using hs, ?_⟩
    · show ((w.setCell ⟨g, 0 + j, none⟩ u).heap)[g]? = _
      rw [Nat.zero_add]; exact heap_setCell_same w g j cur e u hg
    · rw [← ht, Array.toList_setIfInBounds, List.take_set]
theorem Own.at {w : World} {B : Nat} {e : TypeId} {sz n : Nat} {v : Value} {cs : List Value} (h : Own w B e sz v n cs) {j : Nat} (hj : j < cs.length) : w.cell? (el v j) = some cs[j] ∧ w.frozen? (el v j) = false ∧ v.ownBlock = some (el v j).block := by
  refine ⟨h.rd.cell (List.getElem?_eq_getElem hj), ?_, ?_⟩
  all_goals
    obtain ⟨hl, h2⟩ := h
    rcases h2 with ⟨rfl, h0⟩ | ⟨g, cap, cur, rfl, hb, hg, r⟩
    · subst h0; simp at hl; subst hl; simp at hj
  · show w.frozen? ⟨g, 0 + j, none⟩ = false
    exact frozen_of_row w g _ cur e hg
  · rfl
section
variable {α : Type}
def OwnF (enc : α → List Value) (sz : Nat) (w : World) (B : Nat) (e : TypeId) (v : Value) (l : List α) : Prop := (∀ a ∈ l, (enc a).length = sz) ∧ Own w B e sz v l.length (l.flatMap enc)
variable {enc : α → List Value} {sz : Nat} {w w' : World} {B : Nat} {e : TypeId} {v : Value} {l : List α}
theorem OwnF.nil (enc : α → List Value) (sz : Nat) (w : World) (B : Nat) (e : TypeId) : OwnF enc sz w B e (.slice none 0 0) ([] : List α) := ⟨by simp, Own.nil w B e sz⟩
theorem OwnF.rd (h : OwnF enc sz w B e v l) : RdF enc sz w v l := ⟨h.1, Own.rd h.2⟩
theorem OwnF.kept (h : OwnF enc sz w B e v l) (k : Ext w w') : OwnF enc sz w' B e v l := ⟨h.1, Own.kept h.2 k⟩
theorem OwnF.apart {a : Value} (h : OwnF enc sz w B e v l) (g : w.grownBy w' a.ownBlock) (k : Apart a v) : OwnF enc sz w' B e v l := ⟨h.1, Own.apart h.2 g k⟩
theorem OwnF.other {r : Option Nat} (h : OwnF enc sz w B e v l) (g : w.grownBy w' r) (hne : v.ownBlock = none ∨ v.ownBlock ≠ r) : OwnF enc sz w' B e v l := ⟨h.1, Own.other h.2 g hne⟩
theorem flat_len (h : ∀ a ∈ l, (enc a).length = sz) : (l.flatMap enc).length = l.length * sz := by
  induction l with
  | nil => simp
  | cons a l ih =>
    rw [List.flatMap_cons, List.length_append, ih (fun x hx => h x (by simp [hx])), h a (by simp), List.length_cons, Nat.succ_mul]; omega
theorem flat_set {i j : Nat} {a' : α} {u : Value} : ∀ {l : List α}, (∀ a ∈ l, (enc a).length = sz) → ∀ (hi : i < l.length), j < sz → enc a' = (enc l[i]).set j u → (l.flatMap enc).set (i * sz + j) u = (l.set i a').flatMap enc := by
  induction i with
  | zero =>
    intro l h hi hj he
    cases l with
    | nil => simp at hi
    | cons a l =>
      have h1 := h a (by simp)
      simp only [List.flatMap_cons, List.set_cons_zero, Nat.zero_mul, Nat.zero_add]
      rw [List.set_append_left _ _ (by omega), he]; rfl
  | succ i ih =>
    intro l h hi hj he
    cases l with
    | nil => simp at hi
    | cons a l =>
      have h1 := h a (by simp)
      simp only [List.flatMap_cons, List.set_cons_succ]
      rw [List.set_append_right _ _ (by rw [h1, Nat.succ_mul]; omega), show (i + 1) * sz + j - (enc a).length = i * sz + j by rw [h1, Nat.succ_mul]; omega]
      rw [ih (fun x hx => h x (by simp [hx])) (by simpa using hi) hj (by simpa using he)]
theorem flat_bound {i j : Nat} (h : ∀ a ∈ l, (enc a).length = sz) (hi : i < l.length) (hj : j < sz) : i * sz + j < (l.flatMap enc).length := by
  rw [flat_len h]
  have := Nat.mul_le_mul_right sz (show i + 1 ≤ l.length from hi)
  rw [Nat.succ_mul] at this; omega
theorem OwnF.cellAt (h : OwnF enc sz w B e v l) {i : Nat} (hi : i < l.length) (j : Nat) {u : Value} (hu : (enc l[i])[j]? = some u) : w.cell? (el v (i * sz + j)) = some u ∧ w.frozen? (el v (i * sz + j)) = false ∧ v.ownBlock = some (el v (i * sz + j)).block := by
  have hj : j < sz := by have := (List.getElem?_eq_some_iff.1 hu).1; rw [h.1 _ (List.getElem_mem hi)] at this; exact this
  obtain ⟨h1, h2, h3⟩ := Own.at h.2 (flat_bound h.1 hi hj)
  exact ⟨h.rd.cell hi j hu, h2, h3⟩
theorem OwnF.set (h : OwnF enc sz w B e v l) {i : Nat} (hi : i < l.length) (j : Nat) (hj : j < sz) {u : Value} {a' : α} (he : enc a' = (enc l[i]).set j u) : OwnF enc sz (w.setCell (el v (i * sz + j)) u) B e v (l.set i a') := by
  refine ⟨fun a ha => ?_, ?_⟩
  · rcases List.mem_or_eq_of_mem_set ha with ha | rfl
    · exact h.1 a ha
    · rw [he, List.length_set]; exact h.1 _ (List.getElem_mem hi)
  · rw [List.length_set, ← flat_set h.1 hi hj he]
    exact Own.setAt h.2 (flat_bound h.1 hi hj) u
theorem OwnF.grow (h : OwnF enc sz w B e v l) {i : Nat} (hi : i < l.length) (j : Nat) {o : Value} (hu : (enc l[i])[j]? = some o) (u : Value) : w.grownBy (w.setCell (el v (i * sz + j)) u) v.ownBlock := by
  rw [(h.cellAt hi j hu).2.2]; exact grown_set w (el v (i * sz + j)) u
end
section
variable {P : Program} {ops : Array Oper} {Q : Exit → Act → World → Prop} {s : St} {env : Env} {w : World} {rest : List Oper}
variable {d : Nat} {ty : TypeId} {pos : String} {aft : Array Edge}
theorem OwnF.cellF {α : Type} {enc : α → List Value} {sz B : Nat} {e : TypeId} {v : Value} {l : List α} (h : OwnF enc sz w B e v l) {i : Nat} (hi : i < l.length) (j : Nat) {u : Value} (hu : (enc l[i])[j]? = some u) {ad : Addr} (had : ad = el v (i * sz + j)) : w.cell? ad = some u := had ▸ (h.cellAt hi j hu).1
/-- a field of an element is set -/
theorem E.storeF {α : Type} {enc : α → List Value} {sz B : Nat} {e : TypeId} {v : Value} {l : List α} {t : TypeId} {x y : Operand} {ad : Addr} {u o : Value} {i : Nat} (j : Nat) (a' : α) (hx : ev env x = some (.pointer (some ad))) (hy : ev env y = some u) (hs : (P.info? t).map (·.size) = some 1) (h1 : u.oneCell' = true)
    (hO : OwnF enc sz w B e v l) (hi : i < l.length) (had : ad = el v (i * sz + j)) (hold : (enc l[i])[j]? = some o) (he : enc a' = (enc l[i]).set j u)
    (h : ∀ w', OwnF enc sz w' B e v (l.set i a') → w.grownBy w' v.ownBlock → w'.heap.size = w.heap.size → wpE P ops Q s rest env w') : wpE P ops Q s (⟨none, .store t x y, ty, pos, aft, none⟩ :: rest) env w := by
  subst had
  have hj : j < sz := by have := (List.getElem?_eq_some_iff.1 hold).1; rw [hO.1 _ (List.getElem_mem hi)] at this; exact this
  exact E.store hx hy hs h1 (hO.cellAt hi j hold).1 (hO.cellAt hi j hold).2.1 (h _ (hO.set hi j hj he) (hO.grow hi j hold u) (by simp))
/-- append(x, y): one element of several cells more -/
theorem E.pushF {α : Type} {enc : α → List Value} {t e B : Nat} {x y : Operand} {sz by_ d2 : Nat} {ty2 : TypeId} {pos2 : String} {aft2 : Array Edge} {v : Value} {l : List α} (a : α) (hx : ev env x = some v) (hy : ev env y = some (.agg (enc a).toArray)) (ht : P.underlying t = some (.slice e)) (hE : Elem P e sz by_)
    (hown : OwnF enc sz w B e v l) (hl : (enc a).length = sz) (hsm : sz ≤ 4096) (h1 : ∀ x ∈ enc a, x.oneCell' = true) (h63 : l.length + 1 ≤ 9223372036854775807) (hby : (l.length + 1) * by_ ≤ 140737488355328) (hB : B ≤ w.heap.size)
    (hdx : x ≠ .tmp d) (hd : Nat.blt d s.n = true) (hd2 : Nat.blt d2 s.n = true)
    (h : ∀ v' w', OwnF enc sz w' B e v' (l ++ [a]) → w.grownBy w' v.ownBlock → Lies w v v' → wpE P ops Q s rest ((d2, v') :: (d, .slice (some ⟨w.heap.size, 0, none⟩) 1 1) :: env) w') :
    wpE P ops Q s (⟨some d, .buildSlice t 1 #[(0, y)], ty, pos, aft, none⟩ :: ⟨some d2, .call ⟨.builtin .append, #[x, .tmp d], #[t, t]⟩, ty2, pos2, aft2, none⟩ :: rest) env w :=
  E.push (cs := enc a) hx hy ht hE hown.2 rfl hl hsm h1 h63 hby hB hdx hd hd2 fun v' w' ho hg hli => h v' w' ⟨fun b hb => by
    rcases List.mem_append.1 hb with hb | hb
    · exact hown.1 b hb
    · have : b = a := by simpa using hb
      subst this; exact hl, by
    rw [List.length_append, List.flatMap_append]
    simpa using ho⟩ hg hli
end
end Go.Proofs.Ytdcgmkoonanpgaa.Sym
