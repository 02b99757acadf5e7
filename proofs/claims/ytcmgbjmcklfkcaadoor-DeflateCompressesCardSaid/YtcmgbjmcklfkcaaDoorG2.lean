/- Texts of the claim, laid together: Sym5, Sym6. -/
import Derived.Deep.AppendLies
import Derived.Test.YtcmgbjmcklfkcaaDoorG1
/- The walk by named slots: slices that the call itself makes and appends to. For whatever program. -/
namespace Go.Proofs.YtcmgbjmcklfkcaaDoor.Sym
set_option linter.unusedSimpArgs false
set_option linter.unusedVariables false
open Go.RowKit

/-- a slice of the call's own: of n elements of sz cells, in a block from B on -/
abbrev Own (w : World) (B : Nat) (e : TypeId) (sz : Nat) (v : Value) (n : Nat) (cs : List Value) : Prop := w.ownsRow B e sz v n cs
def OwnL {α : Type} (enc : α → Value) (w : World) (B : Nat) (e : TypeId) (v : Value) (l : List α) : Prop := Own w B e 1 v l.length (l.map enc)
theorem Own.nil (w : World) (B : Nat) (e : TypeId) (sz : Nat) : Own w B e sz (.slice none 0 0) 0 [] := World.ownsRow_nil w B e sz
theorem OwnL.nil {α : Type} (enc : α → Value) (w : World) (B : Nat) (e : TypeId) : OwnL enc w B e (.slice none 0 0) ([] : List α) := World.ownsRow_nil w B e 1
theorem Own.rd {w : World} {B : Nat} {e : TypeId} {sz n : Nat} {v : Value} {cs : List Value} (h : Own w B e sz v n cs) : Rd w sz v n cs := by
  obtain ⟨hl, h2⟩ := h
  rcases h2 with ⟨rfl, rfl⟩ | ⟨g, cap, cur, rfl, hb, hg, hn, hm, hs, ht⟩
  · have : cs = [] := List.eq_nil_of_length_eq_zero (by simpa using hl)
    subst this
    exact ⟨none, 0, rfl, Nat.le_refl _, by unfold maxLen; omega, by simp, by simp, fun j u h => by simp at h⟩
  · refine ⟨some ⟨g, 0, none⟩, cap, rfl, hn, hm, hl, fun _ => ⟨_, _, rfl⟩, fun j u hu => ?_⟩
    show w.cell? ⟨g, 0 + j, none⟩ = _
    rw [Nat.zero_add, cell_of_row w g j cur e (0, 0) hg]
    rw [← ht, List.getElem?_take] at hu
    split at hu
    · simpa using hu
    · cases hu
theorem OwnL.rd {α : Type} {enc : α → Value} {w : World} {B : Nat} {e : TypeId} {v : Value} {l : List α} (h : OwnL enc w B e v l) : RdL enc w v l := Own.rd h
theorem Own.kept {w w' : World} {B : Nat} {e : TypeId} {sz n : Nat} {v : Value} {cs : List Value} (h : Own w B e sz v n cs) (k : Ext w w') : Own w' B e sz v n cs :=
  World.ownsRow.kept h (k.toGrown none) (by cases v.ownBlock <;> simp)
theorem OwnL.kept {α : Type} {enc : α → Value} {w w' : World} {B : Nat} {e : TypeId} {v : Value} {l : List α} (h : OwnL enc w B e v l) (k : Ext w w') : OwnL enc w' B e v l := Own.kept h k
/-- another row of the call's own has grown -/
theorem Own.other {w w' : World} {B : Nat} {e : TypeId} {sz n : Nat} {v : Value} {cs : List Value} {r : Option Nat} (h : Own w B e sz v n cs) (g : w.grownBy w' r) (hne : v.ownBlock = none ∨ v.ownBlock ≠ r) : Own w' B e sz v n cs := World.ownsRow.kept h g hne
/-- an owned row seen from a lower base -/
theorem Own.lower {w : World} {B B' : Nat} {e : TypeId} {sz n : Nat} {v : Value} {cs : List Value} (h : Own w B e sz v n cs) (hB : B' ≤ B) : Own w B' e sz v n cs := by
  obtain ⟨hl, h2⟩ := h
  refine ⟨hl, ?_⟩
  rcases h2 with h2 | ⟨g, cap, cur, hv, hb, r⟩
  · exact .inl h2
  · exact .inr ⟨g, cap, cur, hv, by omega, r⟩
theorem Ext.own {a w w' : World} {B : Nat} {e : TypeId} {sz n : Nat} {v : Value} {cs : List Value} (h : Ext a w) (ho : Own w B e sz v n cs) (g : w.grownBy w' v.ownBlock) (hB : a.heap.size ≤ B) : Ext a w' :=
  h.grown g fun k hk => by have := (World.ownsRow.lt ho k hk).1; omega
/-- what lies outside the row that has grown reads as before -/
theorem Rd.grown {w w' : World} {sz n : Nat} {u : Value} {cs : List Value} {r : Option Nat} (h : Rd w sz u n cs) (g : w.grownBy w' r) (hne : cs = [] ∨ some (bs u).1 ≠ r) : Rd w' sz u n cs := by
  rcases hne with rfl | hne
  · exact h.nil_other
  · obtain ⟨a, cap, h1, h2, h3, h4, h5, h6⟩ := h
    exact ⟨a, cap, h1, h2, h3, h4, h5, fun j x hx => g.cell (h6 j x hx) hne⟩
theorem Own.bs_eq {w : World} {B : Nat} {e : TypeId} {sz n : Nat} {v : Value} {cs : List Value} (h : Own w B e sz v n cs) (hc : 0 < cs.length) : v.ownBlock = some (bs v).1 ∧ B ≤ (bs v).1 := by
  obtain ⟨hl, h2⟩ := h
  rcases h2 with ⟨rfl, rfl⟩ | ⟨g, cap, cur, rfl, hb, r⟩
  · rw [hl] at hc; simp at hc
  · exact ⟨rfl, hb⟩

/-- where the new slice lies: where the old one lay, or in a new block -/
def Lies (w : World) (v v' : Value) : Prop := v'.ownBlock = v.ownBlock ∨ ∃ g, v'.ownBlock = some g ∧ w.heap.size ≤ g
/-- two slices do not lie in one block -/
def Apart (a b : Value) : Prop := ∀ g, a.ownBlock = some g → b.ownBlock ≠ some g
theorem Apart.symm {a b : Value} (h : Apart a b) : Apart b a := fun g hb ha => h g ha hb
theorem Apart.nil (b : Value) : Apart (.slice none 0 0) b := fun g h => by cases h
theorem Apart.grow {w : World} {B : Nat} {e : TypeId} {sz n : Nat} {a a' b : Value} {cs : List Value} (h : Apart a b) (hl : Lies w a a') (hb : Own w B e sz b n cs) : Apart a' b := fun g ha hg => by
  rcases hl with hl | ⟨g', hl, hge⟩
  · rw [hl] at ha; exact h g ha hg
  · rw [hl] at ha; cases ha
    have := (World.ownsRow.lt hb g hg).2
    omega
theorem Own.apart {w w' : World} {B : Nat} {e : TypeId} {sz n : Nat} {a b : Value} {cs : List Value} (hb : Own w B e sz b n cs) (g : w.grownBy w' a.ownBlock) (h : Apart a b) : Own w' B e sz b n cs :=
  Own.other hb g (by cases hx : b.ownBlock with
    | none => exact .inl rfl
    | some k => exact .inr (fun e => h k e.symm hx))
section
variable {P : Program} {ops : Array Oper} {Q : Exit → Act → World → Prop} {s : St} {env : Env} {w : World} {rest : List Oper}
variable {d : Nat} {ty : TypeId} {pos : String} {aft : Array Edge}

/-- what is asked of an element type: its size in cells, its bytes, a zero of that size -/
def Elem (P : Program) (e : TypeId) (sz by_ : Nat) : Prop := ∃ i z, P.info? e = some i ∧ i.zero = some z ∧ i.size = sz ∧ i.bytes = by_ ∧ z.cells.size = sz ∧ 0 < sz
theorem elem_of {P : Program} {e : TypeId} {sz by_ : Nat} {z : Value} (h : (P.info? e).map (fun i => (i.zero, i.size, i.bytes)) = some (some z, sz, by_)) (hz : z.cells.size = sz) (h0 : 0 < sz) : Elem P e sz by_ := by
  cases hq : P.info? e with
  | none => simp [hq] at h
  | some i =>
    simp [hq] at h
    exact ⟨i, z, hq, h.1, h.2.1, h.2.2, hz, h0⟩

theorem run_append_any {B : Nat} {t e : TypeId} {sz by_ n m : Nat} {v u : Value} {xs news : List Value} (ty : TypeId) (ht : P.underlying t = some (.slice e)) (hE : Elem P e sz by_)
    (hown : Own w B e sz v n xs) (hu : Rd w sz u m news) (h1 : ∀ x ∈ news, x.oneCell' = true) (h63 : n + m ≤ maxLen) (hby : (n + m) * by_ ≤ 140737488355328) (hB : B ≤ w.heap.size) :
    ∃ v' w', (Builtin.append_ #[t, t] ty #[v, u]).run P w = .ok v' w' ∧ Own w' B e sz v' (n + m) (xs ++ news) ∧ w.grownBy w' v.ownBlock ∧ Lies w v v' := by
  obtain ⟨i, z, hi, hz, hs, hb, hzs, hpos⟩ := hE
  obtain ⟨a, cap, rfl, hc, hm, hl, hsome, hat⟩ := hu
  cases a with
  | some ad =>
    have hnews : ∀ j x, news[j]? = some x → w.cell? (ad.add j) = some x := fun j x hx => by
      have hp : 0 < news.length := by have := (List.getElem?_eq_some_iff.1 hx).1; omega
      obtain ⟨b, off, hbo⟩ := hsome hp
      cases hbo
      rw [addr_add]; exact hat j x hx
    obtain ⟨v', w', hr, ho, hg, _, h5⟩ := run_append_own_at (P := P) w B t ty e i z sz by_ ht hi hz hs hb hzs hpos v n xs hown ad m cap news hl hnews h1 h63 hby hB
    exact ⟨v', w', hr, ho, hg, by rcases h5 with h5 | h5 <;> first | exact .inl h5 | exact .inr ⟨_, h5, Nat.le_refl _⟩⟩
  | none =>
    have hn0 : news = [] := by
      cases news with
      | nil => rfl
      | cons x r => obtain ⟨b, off, h⟩ := hsome (by simp); cases h
    subst hn0
    have hm0 : m = 0 := by
      rcases Nat.eq_zero_or_pos m with h | h
      · exact h
      · have := Nat.mul_pos h hpos; simp at hl; omega
    subst hm0
    refine ⟨v, w, ?_, by simpa using hown, grown_refl w _, .inl rfl⟩
    obtain ⟨hl2, h2⟩ := hown
    rcases h2 with ⟨rfl, rfl⟩ | ⟨g, cap2, cur, rfl, hbb, hgg, hn2, rest⟩
    · simp [Builtin.append_, run_underlying ht, sizeOf, typeInfo, hi, Builtin.lenOf, Builtin.firstCells]
    · simp [Builtin.append_, run_underlying ht, sizeOf, typeInfo, hi, Builtin.lenOf, Builtin.firstCells, hn2, storeCells]
/-- append(x, y...) onto a slice of the call's own -/
theorem E.append {t e B : Nat} {x y : Operand} {sz by_ n m : Nat} {v u : Value} {xs news : List Value} (hx : ev env x = some v) (hy : ev env y = some u) (ht : P.underlying t = some (.slice e)) (hE : Elem P e sz by_)
    (hown : Own w B e sz v n xs) (hu : Rd w sz u m news) (h1 : ∀ x ∈ news, x.oneCell' = true) (h63 : n + m ≤ 9223372036854775807) (hby : (n + m) * by_ ≤ 140737488355328) (hB : B ≤ w.heap.size) (hd : Nat.blt d s.n = true)
    (h : ∀ v' w', Own w' B e sz v' (n + m) (xs ++ news) → w.grownBy w' v.ownBlock → Lies w v v' → wpE P ops Q s rest ((d, v') :: env) w') :
    wpE P ops Q s (⟨some d, .call ⟨.builtin .append, #[x, y], #[t, t]⟩, ty, pos, aft, none⟩ :: rest) env w := by
  obtain ⟨v', w', hr, ho, hg, hli⟩ := run_append_any (P := P) ty ht hE hown hu h1 (by unfold maxLen; omega) hby hB
  exact E.op (fun a ha => by simp [execOp, resolve, invoke, builtin, ha.ev hx, ha.ev hy, hr]) hd (h v' w' ho hg hli)
theorem fold_set (new : List Value) : ∀ (i : Nat) (pre cur : List Value), pre.length = i → cur.length = new.length →
    (new.zipIdx i).foldl (fun cs (c, j) => cs.setIfInBounds j c) (pre ++ cur).toArray = (pre ++ new).toArray := by
  induction new with
  | nil => intro i pre cur h1 h2; have : cur = [] := List.eq_nil_of_length_eq_zero (by simpa using h2); simp [this]
  | cons c r ih =>
    intro i pre cur h1 h2
    cases cur with
    | nil => simp at h2
    | cons x cur =>
      rw [List.zipIdx_cons, List.foldl_cons]
      have : ((pre ++ x :: cur).toArray.setIfInBounds i c) = ((pre ++ [c]) ++ cur).toArray := by
        rw [List.setIfInBounds_toArray]; congr 1
        rw [List.set_append_right _ _ (by omega), h1]; simp
      show List.foldl _ ((pre ++ x :: cur).toArray.setIfInBounds i c) _ = _
      rw [this, ih (i + 1) (pre ++ [c]) cur (by simp [h1]) (by simpa using h2)]
      simp
theorem run_build1 {t e : TypeId} {sz by_ : Nat} {u : Value} {cs : List Value} (ht : P.underlying t = some (.slice e)) (hE : Elem P e sz by_) (hu : u.cells = cs.toArray) (hl : cs.length = sz) (hsm : sz ≤ 16777216) (w : World) :
    (Instr.buildSlice t 1 #[(0, u)]).run P w = .ok (.slice (some ⟨w.heap.size, 0, none⟩) 1 1) (w.alloc (.cells cs.toArray e)) := by
  obtain ⟨i, z, hi, hz, hs, hb, hzs, hpos⟩ := hE
  have hne : sz ≠ 0 := by omega
  have hfill : Instr.fill (fun i => some (i * sz, sz)) ((Array.range (1 * sz)).map (z.cells[· % z.cells.size]!)) [(0, u)] = some cs.toArray := by
    have h2 : ¬ (sz ≠ sz ∨ 0 + sz > sz) := by omega
    have hf := fold_set cs 0 [] ((List.range sz).map (z.cells[· % z.cells.size]!)) rfl (by simp [hl])
    have hcs : u.cells.size = sz := by rw [hu]; simpa using hl
    have hzi : u.cells.zipIdx.toList = cs.zipIdx 0 := by rw [hu]; simp
    simp only [Instr.fill, hcs, Nat.zero_mul, Nat.zero_add, Nat.one_mul]
    have hsz2 : ((Array.range sz).map (z.cells[· % z.cells.size]!)).size = sz := by simp
    rw [hsz2]
    simp only [ne_eq, not_true_eq_false, decide_false, Nat.lt_irrefl, gt_iff_lt, Bool.or_self, Bool.false_eq_true, if_false]
    rw [← Array.foldl_toList, hzi]
    have e1 : ((Array.range sz).map (z.cells[· % z.cells.size]!)) = ([] ++ (List.range sz).map (z.cells[· % z.cells.size]!)).toArray := by
      simp [← List.toArray_range]
    rw [e1, hf]; rfl
  have hsm' : ¬ (1 * sz > 2 ^ 24) := by omega
  simp only [Instr.buildSlice]
  rw [Sem.run_bind, run_underlying ht]
  simp only [Result.andThen_ok]
  simp [sizeOf, typeInfo, hi, hs, zeroValue, hz, hne, newRow, newObj, Nat.not_lt.2 hsm]
  simp only [Nat.one_mul] at hfill
  simp [hfill]
  rfl
/-- append(x, y): one element more -/
theorem E.push {t e B : Nat} {x y : Operand} {sz by_ n d2 : Nat} {ty2 : TypeId} {pos2 : String} {aft2 : Array Edge} {v u : Value} {xs cs : List Value} (hx : ev env x = some v) (hy : ev env y = some u) (ht : P.underlying t = some (.slice e)) (hE : Elem P e sz by_)
    (hown : Own w B e sz v n xs) (hu : u.cells = cs.toArray) (hl : cs.length = sz) (hsm : sz ≤ 4096) (h1 : ∀ x ∈ cs, x.oneCell' = true) (h63 : n + 1 ≤ 9223372036854775807) (hby : (n + 1) * by_ ≤ 140737488355328) (hB : B ≤ w.heap.size)
    (hdx : x ≠ .tmp d) (hd : Nat.blt d s.n = true) (hd2 : Nat.blt d2 s.n = true)
    (h : ∀ v' w', Own w' B e sz v' (n + 1) (xs ++ cs) → w.grownBy w' v.ownBlock → Lies w v v' → wpE P ops Q s rest ((d2, v') :: (d, .slice (some ⟨w.heap.size, 0, none⟩) 1 1) :: env) w') :
    wpE P ops Q s (⟨some d, .buildSlice t 1 #[(0, y)], ty, pos, aft, none⟩ :: ⟨some d2, .call ⟨.builtin .append, #[x, .tmp d], #[t, t]⟩, ty2, pos2, aft2, none⟩ :: rest) env w := by
  refine E.buildS (xs := [(0, y)]) (vs := [(0, u)]) (cs := cs) (by simp [evp, hy]) (run_build1 ht hE hu hl (by omega)) hd ?_
  have hx' : ev ((d, .slice (some ⟨w.heap.size, 0, none⟩) 1 1) :: env) x = some v := by
    cases x with
    | tmp k =>
      show look _ k = _
      rw [look_cons, if_neg (fun e => hdx (by rw [e]))]; exact hx
    | _ => exact hx
  refine E.append hx' (by show look _ d = _; rw [look_cons, if_pos rfl]) ht hE (hown.alloc _) (Rd.made w sz 1 e cs (0, 0) (by omega) (by unfold maxLen; omega)) h1 h63 hby (by simp; omega) hd2 fun v' w' ho hg hli => ?_
  exact h v' w' ho (grown_trans ((Ext.new w _).toGrown _) hg) (by rcases hli with hli | ⟨g, h1, h2⟩ <;> first | exact .inl hli | exact .inr ⟨g, h1, by simp at h2; omega⟩)

theorem E.appendL {α : Type} {enc : α → Value} {t e B : Nat} {x y : Operand} {by_ : Nat} {v u : Value} {l m : List α} (hx : ev env x = some v) (hy : ev env y = some u) (ht : P.underlying t = some (.slice e)) (hE : Elem P e 1 by_)
    (hown : OwnL enc w B e v l) (hu : RdL enc w u m) (h1 : ∀ a, (enc a).oneCell' = true) (h63 : l.length + m.length ≤ 9223372036854775807) (hby : (l.length + m.length) * by_ ≤ 140737488355328) (hB : B ≤ w.heap.size) (hd : Nat.blt d s.n = true)
    (h : ∀ v' w', OwnL enc w' B e v' (l ++ m) → w.grownBy w' v.ownBlock → Lies w v v' → wpE P ops Q s rest ((d, v') :: env) w') :
    wpE P ops Q s (⟨some d, .call ⟨.builtin .append, #[x, y], #[t, t]⟩, ty, pos, aft, none⟩ :: rest) env w :=
  E.append hx hy ht hE hown hu (fun z hz => by obtain ⟨a, _, rfl⟩ := List.mem_map.1 hz; exact h1 a) h63 hby hB hd fun v' w' ho hg hli => h v' w' (by unfold OwnL; rw [List.length_append, List.map_append]; exact ho) hg hli
theorem E.pushL {α : Type} {enc : α → Value} {t e B : Nat} {x y : Operand} {by_ d2 : Nat} {ty2 : TypeId} {pos2 : String} {aft2 : Array Edge} {v : Value} {l : List α} (a : α) (hx : ev env x = some v) (hy : ev env y = some (enc a)) (ht : P.underlying t = some (.slice e)) (hE : Elem P e 1 by_)
    (hown : OwnL enc w B e v l) (h1 : (enc a).oneCell' = true) (h63 : l.length + 1 ≤ 9223372036854775807) (hby : (l.length + 1) * by_ ≤ 140737488355328) (hB : B ≤ w.heap.size)
    (hdx : x ≠ .tmp d) (hd : Nat.blt d s.n = true) (hd2 : Nat.blt d2 s.n = true)
    (h : ∀ v' w', OwnL enc w' B e v' (l ++ [a]) → w.grownBy w' v.ownBlock → Lies w v v' → wpE P ops Q s rest ((d2, v') :: (d, .slice (some ⟨w.heap.size, 0, none⟩) 1 1) :: env) w') :
    wpE P ops Q s (⟨some d, .buildSlice t 1 #[(0, y)], ty, pos, aft, none⟩ :: ⟨some d2, .call ⟨.builtin .append, #[x, .tmp d], #[t, t]⟩, ty2, pos2, aft2, none⟩ :: rest) env w :=
  E.push (cs := [enc a]) hx hy ht hE hown (by cases h2 : enc a <;> rw [h2] at h1 <;> first | rfl | (simp [Value.oneCell'] at h1)) rfl (by omega) (by simpa using h1) h63 hby hB hdx hd hd2 fun v' w' ho hg hli => h v' w' (by unfold OwnL; rw [List.length_append, List.map_append]; exact ho) hg hli

/-- an element of a slice of the call's own is set -/
theorem OwnL.set {α : Type} {enc : α → Value} {B : Nat} {e : TypeId} {v : Value} {l : List α} (h : OwnL enc w B e v l) {i : Nat} (hi : i < l.length) (x : α) : OwnL enc (w.setCell (el v i) (enc x)) B e v (l.set i x) := by
  obtain ⟨hl, h2⟩ := h
  refine ⟨by simp, ?_⟩
  rcases h2 with ⟨rfl, h0⟩ | ⟨g, cap, cur, rfl, hb, hg, hn, hm, hs, ht⟩
  · omega
  · refine .inr ⟨g, cap, cur.setIfInBounds i (enc x), by simp, hb, ?_, by simpa using hn, hm, by simpa using hs, ?_⟩
    · show ((w.setCell ⟨g, 0 + i, none⟩ (enc x)).heap)[g]? = _
      rw [Nat.zero_add]; exact heap_setCell_same w g i cur e (enc x) hg
    · rw [List.map_set, ← ht, List.length_set, Array.toList_setIfInBounds]
      simp only [Nat.mul_one]
      rw [List.take_set]
theorem OwnL.cellAt {α : Type} {enc : α → Value} {B : Nat} {e : TypeId} {v : Value} {l : List α} (h : OwnL enc w B e v l) {i : Nat} (hi : i < l.length) : w.cell? (el v i) = some (enc l[i]) ∧ w.frozen? (el v i) = false ∧ v.ownBlock = some (el v i).block := by
  refine ⟨h.rd.cell hi, ?_, ?_⟩
  all_goals
    obtain ⟨hl, h2⟩ := h
    rcases h2 with ⟨rfl, h0⟩ | ⟨g, cap, cur, rfl, hb, hg, r⟩
    · omega
  · show w.frozen? ⟨g, 0 + i, none⟩ = false
    exact frozen_of_row w g _ cur e hg
  · rfl
end
end Go.Proofs.YtcmgbjmcklfkcaaDoor.Sym

/- The walk by named slots: slices of elements of several cells; slices written out with one element. For whatever program. -/
namespace Go.Proofs.YtcmgbjmcklfkcaaDoor.Sym
set_option linter.unusedSimpArgs false
set_option linter.unusedVariables false
open Go.RowKit

/-- a slice of elements of sz cells each, as a list -/
def RdF {α : Type} (enc : α → List Value) (sz : Nat) (w : World) (v : Value) (l : List α) : Prop := (∀ a ∈ l, (enc a).length = sz) ∧ Rd w sz v l.length (l.flatMap enc)
theorem flat_at {α : Type} (enc : α → List Value) (sz : Nat) : ∀ (l : List α), (∀ a ∈ l, (enc a).length = sz) → ∀ i j (h : i < l.length) u, j < sz → (enc l[i])[j]? = some u → (l.flatMap enc)[i * sz + j]? = some u
  | [], _, i, _, h, _, _, _ => by simp at h
  | a :: l, ha, 0, j, _, u, hj, hu => by
    have := ha a (by simp)
    rw [List.flatMap_cons, List.getElem?_append_left (by omega)]; simpa using hu
  | a :: l, ha, i + 1, j, h, u, hj, hu => by
    have h1 := ha a (by simp)
    rw [List.flatMap_cons, List.getElem?_append_right (by rw [h1, Nat.succ_mul]; omega), show (i + 1) * sz + j - (enc a).length = i * sz + j by rw [h1, Nat.succ_mul]; omega]
    exact flat_at enc sz l (fun x hx => ha x (by simp [hx])) i j (by simpa using h) u hj (by simpa using hu)
section
variable {α : Type} {enc : α → List Value} {sz : Nat} {w w' : World} {v : Value} {l : List α}
theorem RdF.rd (h : RdF enc sz w v l) : Rd w sz v l.length (l.flatMap enc) := h.2
theorem RdF.ext (h : RdF enc sz w v l) (k : Ext w w') : RdF enc sz w' v l := ⟨h.1, h.2.ext k⟩
theorem RdF.shape (h : RdF enc sz w v l) : ∃ a cap, v = .slice a l.length cap := h.2.shape
theorem RdF.le (h : RdF enc sz w v l) : l.length ≤ 9223372036854775807 := Rd.le h.2
theorem RdF.cell (h : RdF enc sz w v l) {i : Nat} (hi : i < l.length) (j : Nat) {u : Value} (hu : (enc l[i])[j]? = some u) : w.cell? (el v (i * sz + j)) = some u := by
  have hj : j < sz := by have := (List.getElem?_eq_some_iff.1 hu).1; rw [h.1 _ (List.getElem_mem hi)] at this; exact this
  exact h.2.cell (flat_at enc sz l h.1 i j hi u hj hu)
/-- at the address that indexAddr and fieldAddr yield -/
theorem RdF.cellI (h : RdF enc sz w v l) {i : Nat} (hi : i < l.length) (j : Nat) {u : Value} (hu : (enc l[i])[j]? = some u) {z : Int} (hz : z = (i : Int)) : w.cell? ⟨(bs v).1, (bs v).2 + z.toNat * sz + j, none⟩ = some u := by
  have := h.cell hi j hu
  rw [hz, show ((i : Int)).toNat = i by omega, Nat.add_assoc]; exact this
end
section
variable {P : Program} {ops : Array Oper} {Q : Exit → Act → World → Prop} {s : St} {env : Env} {w : World} {rest : List Oper}
variable {d : Nat} {ty : TypeId} {pos : String} {aft : Array Edge}
theorem OwnL.made1 {α : Type} (enc : α → Value) (w : World) (B : Nat) (e : TypeId) (a : α) (hB : B ≤ w.heap.size) : OwnL enc (w.alloc (.cells #[enc a] e)) B e (.slice (some ⟨w.heap.size, 0, none⟩) 1 1) [a] :=
  ⟨rfl, .inr ⟨w.heap.size, 1, #[enc a], rfl, hB, heap_alloc_new w _, Nat.le_refl 1, by decide, rfl, rfl⟩⟩
/-- a slice written out with one element of one cell -/
theorem E.mk1 {α : Type} {enc : α → Value} {t e : TypeId} {by_ : Nat} {x : Operand} (a : α) (hx : ev env x = some (enc a)) (ht : P.underlying t = some (.slice e)) (hE : Elem P e 1 by_) (h1 : (enc a).oneCell' = true) (B : Nat) (hB : B ≤ w.heap.size)
    (hd : Nat.blt d s.n = true) (h : ∀ v w', OwnL enc w' B e v [a] → Ext w w' → v.ownBlock = some w.heap.size → wpE P ops Q s rest ((d, v) :: env) w') : wpE P ops Q s (⟨some d, .buildSlice t 1 #[(0, x)], ty, pos, aft, none⟩ :: rest) env w :=
  E.buildS (xs := [(0, x)]) (vs := [(0, enc a)]) (e := e) (cs := [enc a]) (by simp [evp, hx]) (fun w => run_build1 ht hE (by cases h2 : enc a <;> rw [h2] at h1 <;> first | rfl | (simp [Value.oneCell'] at h1)) rfl (by decide) w) hd (h _ _ (OwnL.made1 enc w B e a hB) (Ext.new w _) rfl)
end
end Go.Proofs.YtcmgbjmcklfkcaaDoor.Sym
