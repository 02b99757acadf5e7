/- Texts of the claim, laid together: SymR, SymT. -/
import Derived.Test.Ytbinlkobmlebpaax1
import Derived.Test.Ytbinlkobmlebpaax2
set_option linter.unusedSimpArgs false
set_option linter.unusedVariables false
namespace Go.Proofs.Ytbinlkobmlebpaa.Sym
open Go.RowKit
structure Rg where
 fp : Nat → Prop
 ok : World → Prop
 keep : ∀ {w w' : World}, (∀ k, fp k → w'.heap[k]? = w.heap[k]?) → ok w → ok w'
 live : ∀ {w : World}, ok w → ∀ k, fp k → k < w.heap.size
structure FrS (S : Nat → Prop) (w w' : World) : Prop where
 os : w'.os = w.os
 tape : w'.tape = w.tape
 output : w'.output = w.output
 size : w.heap.size ≤ w'.heap.size
 block : ∀ k, k < w.heap.size → ¬ S k → w'.heap[k]? = w.heap[k]?
abbrev Nn : Nat → Prop := fun _ => False
theorem FrS.refl (S : Nat → Prop) (w : World) : FrS S w w := ⟨rfl, rfl, rfl, Nat.le_refl _, fun _ _ _ => rfl⟩
theorem FrS.ext {w w' : World} (h : FrS Nn w w') : Ext w w' := ⟨h.os, h.tape, h.output, h.size, fun k hk => h.block k hk (fun h => h)⟩
theorem FrS.ofExt {S : Nat → Prop} {w w' : World} (h : Ext w w') : FrS S w w' := ⟨h.os, h.tape, h.output, h.size, fun k hk _ => h.block k hk⟩
theorem FrS.ofGrown {S : Nat → Prop} {w w' : World} {r : Option Nat} (h : w.grownBy w' r) (hr : ∀ k, r = some k → S k) : FrS S w w' := ⟨h.os, h.tape, h.output, h.size, fun k hk hS => h.block k hk (fun e => hS (hr k e.symm))⟩
theorem FrS.step {S T : Nat → Prop} {a w w' : World} (h : FrS S a w) (k : FrS T w w') (hT : ∀ x, T x → S x ∨ a.heap.size ≤ x) : FrS S a w' :=
 ⟨k.os.trans h.os, k.tape.trans h.tape, k.output.trans h.output, Nat.le_trans h.size k.size, fun i hi hS => (k.block i (Nat.lt_of_lt_of_le hi h.size) (fun ht => (hT i ht).elim hS (by omega))).trans (h.block i hi hS)⟩
structure Sep (w : World) (rs : List Rg) : Prop where
 ok : ∀ (i : Nat) r, rs[i]? = some r → r.ok w
 apart : ∀ (i j : Nat) r q, rs[i]? = some r → rs[j]? = some q → i ≠ j → ∀ k, r.fp k → ¬ q.fp k
structure M (w0 : World) (S : Nat → Prop) (w : World) (rs : List Rg) : Prop where
 sep : Sep w rs
 mine : ∀ (i : Nat) r, rs[i]? = some r → ∀ k, r.fp k → S k ∨ w0.heap.size ≤ k
 fr : FrS S w0 w
def fpU (rs : List Rg) (k : Nat) : Prop := ∃ (i : Nat) (r : Rg), rs[i]? = some r ∧ r.fp k
section
variable {w0 w w' w'' : World} {S T : Nat → Prop} {rs ns : List Rg} {r q : Rg}
theorem M.ok (h : M w0 S w rs) {i : Nat} (hi : rs[i]? = some r) : r.ok w := h.sep.ok i r hi
theorem M.start (w : World) : M w Nn w [] := ⟨⟨fun i r h => by simp at h, fun i j r q h => by simp at h⟩, fun i r h => by simp at h, FrS.refl _ _⟩
theorem M.startS (h : Sep w rs) : M w (fpU rs) w rs := ⟨h, fun i r hi k hk => .inl ⟨i, r, hi, hk⟩, FrS.refl _ _⟩
theorem M.toExt (h : M w0 Nn w rs) : Ext w0 w := h.fr.ext
theorem M.ext (h : M w0 S w rs) (x : Ext w w') : M w0 S w' rs where
 sep := ⟨fun i r hi => r.keep (fun k hk => x.block k (r.live (h.ok hi) k hk)) (h.ok hi), h.sep.apart⟩
 mine := h.mine
 fr := h.fr.step (FrS.ofExt (S := Nn) x) (fun _ h => h.elim)
theorem M.upd (h : M w0 S w rs) (i : Nat) (hi : rs[i]? = some r) (g : FrS r.fp w w') (hr : q.ok w') (hq : ∀ k, q.fp k → r.fp k ∨ w.heap.size ≤ k) : M w0 S w' (rs.set i q) := by
  have hlt : i < rs.length := (List.getElem?_eq_some_iff.1 hi).1
  have other : ∀ j p, j ≠ i → rs[j]? = some p → p.ok w' := fun j p hne hj => p.keep (fun k hk => g.block k (p.live (h.ok hj) k hk) (fun hrk => h.sep.apart j i p r hj hi hne k hk hrk)) (h.ok hj)
  have at_ : ∀ j p, (rs.set i q)[j]? = some p → (j = i ∧ p = q) ∨ (j ≠ i ∧ rs[j]? = some p) := fun j p hj => by
    by_cases e : i = j
    · subst e; rw [List.getElem?_set_self hlt] at hj; exact .inl ⟨rfl, (Option.some.inj hj).symm⟩
    · rw [List.getElem?_set_ne e] at hj; exact .inr ⟨fun h => e h.symm, hj⟩
  refine ⟨⟨fun j p hj => ?_, fun a b p p' ha hb hne k hk hk' => ?_⟩, fun j p hj k hk => ?_, h.fr.step g (fun x hx => h.mine i r hi x hx)⟩
  · rcases at_ j p hj with ⟨_, rfl⟩ | ⟨hne, hj⟩
    · exact hr
    · exact other j p hne hj
  · rcases at_ a p ha with ⟨rfl, rfl⟩ | ⟨na, ha⟩
    · rcases at_ b p' hb with ⟨rfl, rfl⟩ | ⟨nb, hb⟩
      · exact hne rfl
      · rcases hq k hk with h1 | h1
        · exact h.sep.apart a b r p' hi hb hne k h1 hk'
        · have := p'.live (h.ok hb) k hk'; omega
    · rcases at_ b p' hb with ⟨hbe, hpe⟩ | ⟨nb, hb⟩
      · rw [hpe] at hk'
        rcases hq k hk' with h1 | h1
        · exact h.sep.apart a i p r ha hi na k hk h1
        · have := p.live (h.ok ha) k hk; omega
      · exact h.sep.apart a b p p' ha hb hne k hk hk'
  · rcases at_ j p hj with ⟨_, rfl⟩ | ⟨_, hj⟩
    · rcases hq k hk with h1 | h1
      · exact h.mine i r hi k h1
      · have := h.fr.size; exact .inr (by omega)
    · exact h.mine j p hj k hk
theorem getElem?_app {α : Type} {l m : List α} {i : Nat} {x : α} (h : (l ++ m)[i]? = some x) : (i < l.length ∧ l[i]? = some x) ∨ (l.length ≤ i ∧ m[i - l.length]? = some x) := by
 by_cases e : i < l.length
 · rw [List.getElem?_append_left e] at h; exact .inl ⟨e, h⟩
 · rw [List.getElem?_append_right (by omega)] at h; exact .inr ⟨by omega, h⟩
theorem M.call (h : M w0 S w rs) (k : M w Nn w' ns) : M w0 S w' (rs ++ ns) := by
  have h' := h.ext k.toExt
  have new : ∀ (i : Nat) r, ns[i]? = some r → ∀ x, r.fp x → w.heap.size ≤ x := fun i r hi x hx => (k.mine i r hi x hx).elim (fun h => h.elim) id
  refine ⟨⟨fun i r hi => ?_, fun i j r q hi hj hne x hx hq => ?_⟩, fun i r hi x hx => ?_, h'.fr⟩
  · rcases getElem?_app hi with ⟨_, hi⟩ | ⟨_, hi⟩
    · exact h'.ok hi
    · exact k.ok hi
  · rcases getElem?_app hi with ⟨li, hi⟩ | ⟨li, hi⟩ <;> rcases getElem?_app hj with ⟨lj, hj⟩ | ⟨lj, hj⟩
    · exact h.sep.apart i j r q hi hj hne x hx hq
    · have := r.live (h.ok hi) x hx; have := new _ q hj x hq; omega
    · have := q.live (h.ok hj) x hq; have := new _ r hi x hx; omega
    · exact k.sep.apart _ _ r q hi hj (by omega) x hx hq
  · rcases getElem?_app hi with ⟨_, hi⟩ | ⟨_, hi⟩
    · exact h.mine i r hi x hx
    · have := new _ r hi x hx; have := h.fr.size; exact .inr (by omega)
theorem M.ofNew (x : Ext w w') (hr : r.ok w') (hf : ∀ k, r.fp k → w.heap.size ≤ k) : M w Nn w' [r] := by
 have one : ∀ (i : Nat) p, [r][i]? = some p → i = 0 ∧ p = r := fun i p hi => by
  cases i with
  | zero => exact ⟨rfl, by simpa using hi.symm⟩
  | succ i => simp at hi
 exact ⟨⟨fun i p hi => (one i p hi).2 ▸ hr, fun i j p p' hi hj hne => (hne ((one i p hi).1.trans (one j p' hj).1.symm)).elim⟩, fun i p hi k hk => .inr (hf k ((one i p hi).2 ▸ hk)), FrS.ofExt x⟩
theorem M.ofExt (x : Ext w w') : M w Nn w' [] := ⟨⟨fun i r h => by simp at h, fun i j r q h => by simp at h⟩, fun i r h => by simp at h, FrS.ofExt x⟩
theorem M.new (h : M w0 S w rs) (x : Ext w w') (hr : r.ok w') (hf : ∀ k, r.fp k → w.heap.size ≤ k) : M w0 S w' (rs ++ [r]) := h.call (M.ofNew x hr hf)
theorem M.pick (h : M w0 S w rs) (is : List Nat) (hn : is.Nodup) : M w0 S w (is.filterMap (rs[·]?)) := by
  have key : ∀ (is : List Nat) (i : Nat) r, (is.filterMap (rs[·]?))[i]? = some r → ∃ (a j : Nat), is[a]? = some j ∧ rs[j]? = some r ∧ ((is.take a).filterMap (rs[·]?)).length = i := by
    intro is
    induction is with
    | nil => intro i r hi; simp at hi
    | cons b is ih =>
      intro i r hi
      rw [List.filterMap_cons] at hi
      cases hb : rs[b]? with
      | none =>
        rw [hb] at hi
        obtain ⟨a, j, h1, h2, h3⟩ := ih i r hi
        exact ⟨a + 1, j, by simpa using h1, h2, by simpa [List.take_succ_cons, List.filterMap_cons, hb] using h3⟩
      | some p =>
        rw [hb] at hi
        cases i with
        | zero => exact ⟨0, b, rfl, by rw [hb]; simpa using hi, rfl⟩
        | succ i =>
          obtain ⟨a, j, h1, h2, h3⟩ := ih i r (by simpa using hi)
          exact ⟨a + 1, j, by simpa using h1, h2, by simpa [List.take_succ_cons, List.filterMap_cons, hb] using h3⟩
  refine ⟨⟨fun i r hi => ?_, fun i j r q hi hj hne => ?_⟩, fun i r hi => ?_, h.fr⟩
  · obtain ⟨a, j, _, h2, _⟩ := key is i r hi; exact h.ok h2
  · obtain ⟨a, x, h1, h2, h3⟩ := key is i r hi
    obtain ⟨b, y, g1, g2, g3⟩ := key is j q hj
    refine h.sep.apart x y r q h2 g2 fun e => ?_
    subst e
    have hab : a = b := by
      obtain ⟨la, ea⟩ := List.getElem?_eq_some_iff.1 h1
      obtain ⟨lb, eb⟩ := List.getElem?_eq_some_iff.1 g1
      rcases Nat.lt_trichotomy a b with hl | hl | hl
      · exact (List.pairwise_iff_getElem.1 hn a b la lb hl (ea.trans eb.symm)).elim
      · exact hl
      · exact (List.pairwise_iff_getElem.1 hn b a lb la hl (eb.trans ea.symm)).elim
    subst hab
    exact hne (h3.symm.trans g3)
  · obtain ⟨a, j, _, h2, _⟩ := key is i r hi; exact h.mine j r h2
def repl : List Rg → List Nat → List Rg → List Rg
 | rs, i :: is, o :: os => repl (rs.set i o) is os
 | rs, _, os => rs ++ os
theorem repl_len (rs : List Rg) : ∀ (is : List Nat) (os : List Rg), is.length ≤ os.length → ∀ (i : Nat) r, (repl rs is os)[i]? = some r →
    (∃ a : Nat, is[a]? = some i ∧ os[a]? = some r ∧ ∀ b : Nat, a < b → is[b]? ≠ some i) ∨ (i ∉ is ∧ rs[i]? = some r) ∨ (rs.length ≤ i ∧ os[i - rs.length + is.length]? = some r) := by
  intro is
  induction is generalizing rs with
  | nil =>
    intro os _ i r hi
    have hi : (rs ++ os)[i]? = some r := by cases os <;> exact hi
    rcases getElem?_app hi with ⟨_, h⟩ | ⟨h1, h⟩
    · exact .inr (.inl ⟨by simp, h⟩)
    · exact .inr (.inr ⟨h1, by simpa using h⟩)
  | cons j is ih =>
    intro os hl i r hi
    cases os with
    | nil => simp at hl
    | cons o os =>
      rcases ih (rs.set j o) os (by simpa using hl) i r hi with ⟨a, h1, h2, h3⟩ | ⟨h1, h2⟩ | ⟨h1, h2⟩
      · refine .inl ⟨a + 1, by simpa using h1, by simpa using h2, fun b hb => ?_⟩
        cases b with
        | zero => omega
        | succ b => simpa using h3 b (by omega)
      · by_cases e : j = i
        · subst e
          have hlt : j < rs.length := by have := (List.getElem?_eq_some_iff.1 h2).1; simpa using this
          rw [List.getElem?_set_self hlt] at h2
          refine .inl ⟨0, rfl, by simpa using h2, fun b hb hj => ?_⟩
          cases b with
          | zero => omega
          | succ b => exact h1 (List.mem_of_getElem? (by simpa using hj))
        · rw [List.getElem?_set_ne e] at h2
          exact .inr (.inl ⟨by simp [h1]; exact fun h => e h.symm, h2⟩)
      · refine .inr (.inr ⟨by simpa using h1, ?_⟩)
        rw [List.length_set] at h2
        rw [List.length_cons, ← Nat.add_assoc]; simpa using h2
theorem M.callM {ins outs : List Rg} (h : M w0 S w rs) (is : List Nat) (hn : is.Nodup) (hin : is.filterMap (rs[·]?) = ins) (hlen : is.length = ins.length) (hl : is.length ≤ outs.length) (k : M w (fpU ins) w' outs) : M w0 S w' (repl rs is outs) := by
  have hsome : ∀ j, j ∈ is → ∃ r, rs[j]? = some r := by
    intro j hj
    cases hq : rs[j]? with
    | some r => exact ⟨r, rfl⟩
    | none =>
      exfalso
      have : (is.filterMap (rs[·]?)).length < is.length := by
        clear hin hlen hl hn
        induction is with
        | nil => simp at hj
        | cons b is ih =>
          rw [List.filterMap_cons]
          rcases List.mem_cons.1 hj with rfl | hj
          · rw [hq]; have := List.length_filterMap_le (rs[·]?) is; simp only [List.length_cons]; omega
          · have := ih hj; cases rs[b]? <;> simp only [List.length_cons] <;> omega
      rw [hin] at this; omega
  have hfp : ∀ x, fpU ins x → ∃ j r, j ∈ is ∧ rs[j]? = some r ∧ r.fp x := by
    rintro x ⟨a, r, ha, hx⟩
    subst hin
    obtain ⟨j, hj, hr⟩ := List.mem_filterMap.1 (List.mem_of_getElem? ha)
    exact ⟨j, r, hj, hr, hx⟩
  have rest : ∀ (i : Nat) r, i ∉ is → rs[i]? = some r → ∀ x, r.fp x → ¬ fpU ins x ∧ x < w.heap.size := fun i r hi hr x hx => ⟨fun hf => by
    obtain ⟨j, q, hj, hq, hxq⟩ := hfp x hf
    exact h.sep.apart i j r q hr hq (fun e => hi (e ▸ hj)) x hx hxq, r.live (h.ok hr) x hx⟩
  have keep : ∀ (i : Nat) r, i ∉ is → rs[i]? = some r → r.ok w' := fun i r hi hr => r.keep (fun x hx => k.fr.block x (rest i r hi hr x hx).2 (rest i r hi hr x hx).1) (h.ok hr)
  have outfp : ∀ (a : Nat) q, outs[a]? = some q → ∀ x, q.fp x → fpU ins x ∨ w.heap.size ≤ x := fun a q hq x hx => k.mine a q hq x hx
  have fpS : ∀ x, fpU ins x → S x ∨ w0.heap.size ≤ x := fun x hx => by
    obtain ⟨j, q, _, hq, hxq⟩ := hfp x hx; exact h.mine j q hq x hxq
  have at_ : ∀ (i : Nat) r, (repl rs is outs)[i]? = some r → (∃ a : Nat, outs[a]? = some r ∧ ((is[a]? = some i) ∨ (is.length ≤ a ∧ i = rs.length + (a - is.length)))) ∨ (i ∉ is ∧ rs[i]? = some r) := fun i r hi => by
    rcases repl_len rs is outs hl i r hi with ⟨a, h1, h2, _⟩ | h1 | ⟨h1, h2⟩
    · exact .inl ⟨a, h2, .inl h1⟩
    · exact .inr h1
    · exact .inl ⟨_, h2, .inr ⟨by omega, by omega⟩⟩
  refine ⟨⟨fun i r hi => ?_, fun i j r q hi hj hne x hx hq => ?_⟩, fun i r hi x hx => ?_, h.fr.step k.fr fpS⟩
  · rcases at_ i r hi with ⟨a, h1, _⟩ | ⟨h1, h2⟩
    · exact k.ok h1
    · exact keep i r h1 h2
  · rcases at_ i r hi with ⟨a, h1, h1'⟩ | ⟨h1, h2⟩ <;> rcases at_ j q hj with ⟨b, g1, g1'⟩ | ⟨g1, g2⟩
    · refine k.sep.apart a b r q h1 g1 (fun e => ?_) x hx hq
      subst e
      rcases h1' with h1' | ⟨h1', h2'⟩ <;> rcases g1' with g1' | ⟨g1', g2'⟩
      · rw [h1'] at g1'; exact hne (Option.some.inj g1')
      · have := (List.getElem?_eq_some_iff.1 h1').1; omega
      · have := (List.getElem?_eq_some_iff.1 g1').1; omega
      · exact hne (h2'.trans g2'.symm)
    · have := rest j q g1 g2 x hq
      rcases outfp a r h1 x hx with h3 | h3
      · exact this.1 h3
      · omega
    · have := rest i r h1 h2 x hx
      rcases outfp b q g1 x hq with h3 | h3
      · exact this.1 h3
      · omega
    · exact h.sep.apart i j r q h2 g2 hne x hx hq
  · rcases at_ i r hi with ⟨a, h1, _⟩ | ⟨h1, h2⟩
    · rcases outfp a r h1 x hx with h3 | h3
      · exact fpS x h3
      · have := h.fr.size; exact .inr (by omega)
    · exact h.mine i r h2 x hx
end
section
variable {α : Type}
def Rg.sl (enc : α → Value) (e : TypeId) (v : Value) (l : List α) : Rg where
 fp k := v.ownBlock = some k
 ok w := OwnL enc w 0 e v l
 keep {w w'} hk h := by
  obtain ⟨hl, h2⟩ := h
  refine ⟨hl, ?_⟩
  rcases h2 with h2 | ⟨g, cap, cur, hv, hb, hg, r⟩
  · exact .inl h2
  · exact .inr ⟨g, cap, cur, hv, hb, by rw [hk g (by rw [hv]; rfl)]; exact hg, r⟩
 live h k hk := (World.ownsRow.lt h k hk).2
def Rg.slF (enc : α → List Value) (sz : Nat) (e : TypeId) (v : Value) (l : List α) : Rg where
 fp k := v.ownBlock = some k
 ok w := OwnF enc sz w 0 e v l
 keep {w w'} hk h := by
  obtain ⟨h0, hl, h2⟩ := h
  refine ⟨h0, hl, ?_⟩
  rcases h2 with h2 | ⟨g, cap, cur, hv, hb, hg, r⟩
  · exact .inl h2
  · exact .inr ⟨g, cap, cur, hv, hb, by rw [hk g (by rw [hv]; rfl)]; exact hg, r⟩
 live h k hk := (World.ownsRow.lt h.2 k hk).2
def Rg.blk (b : Nat) (T : TypeId) (cs : List Value) : Rg where
 fp k := k = b
 ok w := Blk w b T cs.toArray
 keep {w w'} hk h := by show w'.heap[b]? = _; rw [hk b rfl]; exact h
 live h k hk := by subst hk; exact h.lt
def Rg.rd (sz : Nat) (v : Value) (n : Nat) (cs : List Value) : Rg where
  fp k := cs ≠ [] ∧ k = (bs v).1
  ok w := Rd w sz v n cs
  keep {w w'} hk h := by
    rcases List.eq_nil_or_concat cs with rfl | ⟨_, _, hc⟩
    · exact h.nil_other
    · obtain ⟨a, cap, h1, h2, h3, h4, h5, h6⟩ := h
      refine ⟨a, cap, h1, h2, h3, h4, h5, fun j u hu => ?_⟩
      have := h6 j u hu
      rw [World.cell?_of_block (w := w) (hk _ ⟨by rw [hc]; simp, rfl⟩)]; exact this
  live h k hk := by
    obtain ⟨h1, rfl⟩ := hk
    exact h.lt (by cases cs with | nil => exact (h1 rfl).elim | cons _ _ => simp)
variable {w0 w w' : World} {S : Nat → Prop} {rs : List Rg} {enc : α → Value} {e : TypeId} {v : Value} {l : List α}
theorem M.own (h : M w0 S w rs) (i : Nat) (hi : rs[i]? = some (Rg.sl enc e v l)) : OwnL enc w 0 e v l := h.ok hi
theorem M.sl (h : M w0 S w rs) (i : Nat) (hi : rs[i]? = some (Rg.sl enc e v l)) : RdL enc w v l := (h.own i hi).rd
theorem M.ownF {enc : α → List Value} {sz : Nat} (h : M w0 S w rs) (i : Nat) (hi : rs[i]? = some (Rg.slF enc sz e v l)) : OwnF enc sz w 0 e v l := h.ok hi
theorem M.slF {enc : α → List Value} {sz : Nat} (h : M w0 S w rs) (i : Nat) (hi : rs[i]? = some (Rg.slF enc sz e v l)) : RdF enc sz w v l := (h.ownF i hi).rd
theorem M.blk {b : Nat} {T : TypeId} {cs : List Value} (h : M w0 S w rs) (i : Nat) (hi : rs[i]? = some (Rg.blk b T cs)) : Blk w b T cs.toArray := h.ok hi
theorem M.bcell {b : Nat} {T : TypeId} {cs : List Value} {off : Nat} {u : Value} (h : M w0 S w rs) (i : Nat) (hi : rs[i]? = some (Rg.blk b T cs)) (hu : cs[off]? = some u) : w.cell? ⟨b, off, none⟩ = some u := by
 rw [(h.blk i hi).cell]; simpa using hu
theorem M.bat {b : Nat} {T : TypeId} {cs : List Value} (h : M w0 S w rs) (i : Nat) (hi : rs[i]? = some (Rg.blk b T cs)) : At w b 0 cs := (h.blk i hi).at 0 cs (fun j u hu => by simpa using hu)
def Off (S : Nat → Prop) (v : Value) (l : List α) : Prop := l = [] ∨ ¬ S (bs v).1
theorem FrS.rd {sz n : Nat} {cs : List Value} (k : FrS S w w') (h : Rd w sz v n cs) (ho : Off S v cs) : Rd w' sz v n cs := by
  rcases ho with rfl | ho
  · exact h.nil_other
  · obtain ⟨a, cap, h1, h2, h3, h4, h5, h6⟩ := h
    refine ⟨a, cap, h1, h2, h3, h4, h5, fun j u hu => ?_⟩
    have := h6 j u hu
    rw [World.cell?_of_block (w := w) (k.block _ (World.block_lt_of_cell? w _ this) ho)]; exact this
theorem M.arg (h : M w0 S w rs) (hR : RdL enc w0 v l) (ho : Off S v l) : RdL enc w v l := h.fr.rd hR (by rcases ho with rfl | ho; exact .inl rfl; exact .inr ho)
theorem M.arg0 (h : M w0 Nn w rs) (hR : RdL enc w0 v l) : RdL enc w v l := hR.ext h.toExt
theorem M.argF0 {enc : α → List Value} {sz : Nat} (h : M w0 Nn w rs) (hR : RdF enc sz w0 v l) : RdF enc sz w v l := hR.ext h.toExt
theorem Rg.sl_new {enc : α → Value} (h : OwnL enc w' w.heap.size e v l) : (Rg.sl enc e v l).ok w' ∧ ∀ k, (Rg.sl enc e v l).fp k → w.heap.size ≤ k := ⟨Own.lower h (Nat.zero_le _), fun k hk => (World.ownsRow.lt h k hk).1⟩
theorem M.nil (h : M w0 S w rs) (enc : α → Value) (e : TypeId) : M w0 S w (rs ++ [Rg.sl enc e (.slice none 0 0) []]) := h.new (Ext.refl w) (OwnL.nil enc w 0 e) (fun k hk => by cases hk)
theorem M.nilF (h : M w0 S w rs) (enc : α → List Value) (sz : Nat) (e : TypeId) : M w0 S w (rs ++ [Rg.slF enc sz e (.slice none 0 0) []]) := h.new (Ext.refl w) (OwnF.nil enc sz w 0 e) (fun k hk => by cases hk)
theorem M.grow {enc : α → Value} {v' : Value} {l' : List α} (h : M w0 S w rs) (i : Nat) (hi : rs[i]? = some (Rg.sl enc e v l)) (ho : OwnL enc w' 0 e v' l') (g : w.grownBy w' v.ownBlock) (hl : Lies w v v') : M w0 S w' (rs.set i (Rg.sl enc e v' l')) :=
  h.upd i hi (FrS.ofGrown g (fun k hk => hk)) ho (fun k hk => by
    rcases hl with hl | ⟨g, h1, h2⟩
    · exact .inl (hl.symm.trans hk)
    · have : v'.ownBlock = some k := hk
      rw [h1] at this; cases this; exact .inr h2)
theorem M.growF {enc : α → List Value} {sz : Nat} {v' : Value} {l' : List α} (h : M w0 S w rs) (i : Nat) (hi : rs[i]? = some (Rg.slF enc sz e v l)) (ho : OwnF enc sz w' 0 e v' l') (g : w.grownBy w' v.ownBlock) (hl : Lies w v v') : M w0 S w' (rs.set i (Rg.slF enc sz e v' l')) :=
  h.upd i hi (FrS.ofGrown g (fun k hk => hk)) ho (fun k hk => by
    rcases hl with hl | ⟨g, h1, h2⟩
    · exact .inl (hl.symm.trans hk)
    · have : v'.ownBlock = some k := hk
      rw [h1] at this; cases this; exact .inr h2)
theorem M.setL {enc : α → Value} (h : M w0 S w rs) (i : Nat) (hi : rs[i]? = some (Rg.sl enc e v l)) {j : Nat} (hj : j < l.length) (x : α) : M w0 S (w.setCell (el v j) (enc x)) (rs.set i (Rg.sl enc e v (l.set j x))) := by
 have g := grown_set w (el v j) (enc x)
 rw [← ((h.own i hi).cellAt hj).2.2] at g
 exact h.grow i hi ((h.own i hi).set hj x) g (.inl rfl)
end
section
variable {P : Program} {ops : Array Oper} {Q : Exit → Act → World → Prop} {s : St} {env : Env} {w0 w : World} {S : Nat → Prop} {rs : List Rg} {rest : List Oper}
variable {d : Nat} {ty : TypeId} {pos : String} {aft : Array Edge}
theorem E.boxM {T : TypeId} {x : Operand} {v : Value} {cs : List Value} (hM : M w0 S w rs) (hx : ev env x = some v) (hc : v.cells = cs.toArray) (hd : Nat.blt d s.n = true)
  (h : ∀ b w', M w0 S w' (rs ++ [Rg.blk b T cs]) → wpE P ops Q s rest ((d, pv b) :: env) w') : wpE P ops Q s (⟨some d, .box T x, ty, pos, aft, none⟩ :: rest) env w :=
 E.boxB hx hc hd fun w' hb hx _ => h _ w' (hM.new hx hb (fun k hk => by cases hk; exact Nat.le_refl _))
theorem E.allocM {T : TypeId} {z : Value} {cs : List Value} (hM : M w0 S w rs) (hz : (zeroValue T).run P w = .ok z w) (hc : z.cells = cs.toArray) (hd : Nat.blt d s.n = true)
  (h : ∀ b w', M w0 S w' (rs ++ [Rg.blk b T cs]) → wpE P ops Q s rest ((d, pv b) :: env) w') : wpE P ops Q s (⟨some d, .alloc T, ty, pos, aft, none⟩ :: rest) env w :=
 E.allocB hz hc hd fun w' hb hx _ => h _ w' (hM.new hx hb (fun k hk => by cases hk; exact Nat.le_refl _))
theorem setBlk {b off : Nat} {T : TypeId} {cs : List Value} (hM : M w0 S w rs) (i : Nat) (hi : rs[i]? = some (Rg.blk b T cs)) (u : Value) : M w0 S (w.setCell ⟨b, off, none⟩ u) (rs.set i (Rg.blk b T (cs.set off u))) :=
 hM.upd i hi (FrS.ofGrown (grown_set w ⟨b, off, none⟩ u) (fun k hk => by cases hk; rfl)) (by
  have := (hM.blk i hi).set off u
  show Blk _ b T _
  simpa using this) (fun k hk => .inl hk)
theorem E.storeM {t T : TypeId} {x y : Operand} {b off : Nat} {u old : Value} {cs : List Value} (i : Nat) (hM : M w0 S w rs) (hi : rs[i]? = some (Rg.blk b T cs)) (hx : ev env x = some (.pointer (some ⟨b, off, none⟩))) (hy : ev env y = some u) (hs : (P.info? t).map (·.size) = some 1) (h1 : u.oneCell' = true) (ho : cs[off]? = some old)
  (h : ∀ w', M w0 S w' (rs.set i (Rg.blk b T (cs.set off u))) → wpE P ops Q s rest env w') : wpE P ops Q s (⟨none, .store t x y, ty, pos, aft, none⟩ :: rest) env w :=
 E.store hx hy hs h1 (hM.bcell i hi ho) ((hM.blk i hi).frozen off) (h _ (setBlk hM i hi u))
theorem E.storeAM {t T : TypeId} {x y : Operand} {b : Nat} {cs cur : List Value} (i : Nat) (hM : M w0 S w rs) (hi : rs[i]? = some (Rg.blk b T cur)) (hx : ev env x = some (pv b)) (hy : ev env y = some (.agg cs.toArray)) (hs : (P.info? t).map (·.size) = some cs.length) (hl : cur.length = cs.length) (h1 : ∀ u ∈ cs, u.oneCell' = true)
  (h : ∀ w', M w0 S w' (rs.set i (Rg.blk b T cs)) → wpE P ops Q s rest env w') : wpE P ops Q s (⟨none, .store t x y, ty, pos, aft, none⟩ :: rest) env w :=
 E.storeBA hx hy hs (hM.blk i hi) (by simpa using hl) h1 fun w' hb g _ => h w' (hM.upd i hi (FrS.ofGrown g (fun k hk => by cases hk; rfl)) hb (fun k hk => .inl hk))
theorem E.storeL {α : Type} {enc : α → Value} {e t : TypeId} {x y : Operand} {ad : Addr} {v : Value} {l : List α} {j : Nat} (i : Nat) (a : α) (hM : M w0 S w rs) (hi : rs[i]? = some (Rg.sl enc e v l)) (hx : ev env x = some (.pointer (some ad))) (hy : ev env y = some (enc a)) (hs : (P.info? t).map (·.size) = some 1) (h1 : (enc a).oneCell' = true)
  (had : ad = el v j) (hj : j < l.length) (h : ∀ w', M w0 S w' (rs.set i (Rg.sl enc e v (l.set j a))) → wpE P ops Q s rest env w') : wpE P ops Q s (⟨none, .store t x y, ty, pos, aft, none⟩ :: rest) env w := by
 subst had
 have hc := (hM.own i hi).cellAt hj
 exact E.store hx hy hs h1 hc.1 hc.2.1 (h _ (hM.setL i hi hj a))
theorem E.pushM {α : Type} {enc : α → Value} {t e : Nat} {x y : Operand} {by_ d2 : Nat} {ty2 : TypeId} {pos2 : String} {aft2 : Array Edge} {v : Value} {l : List α} (i : Nat) (a : α) (hM : M w0 S w rs) (hi : rs[i]? = some (Rg.sl enc e v l)) (hx : ev env x = some v) (hy : ev env y = some (enc a)) (ht : P.underlying t = some (.slice e)) (hE : Elem P e 1 by_)
  (h1 : (enc a).oneCell' = true) (h63 : l.length + 1 ≤ 9223372036854775807) (hby : (l.length + 1) * by_ ≤ 140737488355328) (hdx : x ≠ .tmp d) (hd : Nat.blt d s.n = true) (hd2 : Nat.blt d2 s.n = true)
  (h : ∀ v' u w', M w0 S w' (rs.set i (Rg.sl enc e v' (l ++ [a]))) → wpE P ops Q s rest ((d2, v') :: (d, u) :: env) w') :
  wpE P ops Q s (⟨some d, .buildSlice t 1 #[(0, y)], ty, pos, aft, none⟩ :: ⟨some d2, .call ⟨.builtin .append, #[x, .tmp d], #[t, t]⟩, ty2, pos2, aft2, none⟩ :: rest) env w :=
 E.pushL a hx hy ht hE (hM.own i hi) h1 h63 hby (Nat.zero_le _) hdx hd hd2 fun v' w' ho g hl => h v' _ w' (hM.grow i hi ho g hl)
theorem E.pushFM {α : Type} {enc : α → List Value} {t e : Nat} {x y : Operand} {sz by_ d2 : Nat} {ty2 : TypeId} {pos2 : String} {aft2 : Array Edge} {v : Value} {l : List α} (i : Nat) (a : α) (hM : M w0 S w rs) (hi : rs[i]? = some (Rg.slF enc sz e v l)) (hx : ev env x = some v) (hy : ev env y = some (.agg (enc a).toArray)) (ht : P.underlying t = some (.slice e)) (hE : Elem P e sz by_)
  (hl : (enc a).length = sz) (hsm : sz ≤ 4096) (h1 : ∀ x ∈ enc a, x.oneCell' = true) (h63 : l.length + 1 ≤ 9223372036854775807) (hby : (l.length + 1) * by_ ≤ 140737488355328) (hdx : x ≠ .tmp d) (hd : Nat.blt d s.n = true) (hd2 : Nat.blt d2 s.n = true)
  (h : ∀ v' u w', M w0 S w' (rs.set i (Rg.slF enc sz e v' (l ++ [a]))) → wpE P ops Q s rest ((d2, v') :: (d, u) :: env) w') :
  wpE P ops Q s (⟨some d, .buildSlice t 1 #[(0, y)], ty, pos, aft, none⟩ :: ⟨some d2, .call ⟨.builtin .append, #[x, .tmp d], #[t, t]⟩, ty2, pos2, aft2, none⟩ :: rest) env w :=
 E.pushF a hx hy ht hE (hM.ownF i hi) hl hsm h1 h63 hby (Nat.zero_le _) hdx hd hd2 fun v' w' ho g hl => h v' _ w' (hM.growF i hi ho g hl)
theorem E.appendM {α : Type} {enc : α → Value} {t e : Nat} {x y : Operand} {by_ : Nat} {v u : Value} {l m : List α} (i : Nat) (hM : M w0 S w rs) (hi : rs[i]? = some (Rg.sl enc e v l)) (hx : ev env x = some v) (hy : ev env y = some u) (ht : P.underlying t = some (.slice e)) (hE : Elem P e 1 by_)
  (hu : RdL enc w u m) (h1 : ∀ a, (enc a).oneCell' = true) (h63 : l.length + m.length ≤ 9223372036854775807) (hby : (l.length + m.length) * by_ ≤ 140737488355328) (hd : Nat.blt d s.n = true)
  (h : ∀ v' w', M w0 S w' (rs.set i (Rg.sl enc e v' (l ++ m))) → wpE P ops Q s rest ((d, v') :: env) w') :
  wpE P ops Q s (⟨some d, .call ⟨.builtin .append, #[x, y], #[t, t]⟩, ty, pos, aft, none⟩ :: rest) env w :=
 E.appendL hx hy ht hE (hM.own i hi) hu h1 h63 hby (Nat.zero_le _) hd fun v' w' ho g hl => h v' w' (hM.grow i hi ho g hl)
theorem E.makeM {α : Type} {enc : α → Value} {t e : TypeId} {by_ : Nat} {x : Operand} {n : Nat} (z : α) (hM : M w0 S w rs) (hx : ev env x = some (.int .i64 (n : Int))) (ht : P.underlying t = some (.slice e)) (hz : (P.info? e).map (fun i => (i.zero, i.size, i.bytes)) = some (some (enc z), 1, by_)) (hc : (enc z).cells = #[enc z])
  (hby : by_ * n ≤ 281474976710656) (hn : n ≤ 9223372036854775807) (hd : Nat.blt d s.n = true)
  (h : ∀ v w', M w0 S w' (rs ++ [Rg.sl enc e v (List.replicate n z)]) → wpE P ops Q s rest ((d, v) :: env) w') : wpE P ops Q s (⟨some d, .makeSlice t x x, ty, pos, aft, none⟩ :: rest) env w :=
 E.make z hx ht hz hc hby hn w.heap.size (Nat.le_refl _) hd fun v w' ho x _ _ => h v w' (hM.new x (Rg.sl_new ho).1 (Rg.sl_new ho).2)
theorem E.mk1M {α : Type} {enc : α → Value} {t e : TypeId} {by_ : Nat} {x : Operand} (a : α) (hM : M w0 S w rs) (hx : ev env x = some (enc a)) (ht : P.underlying t = some (.slice e)) (hE : Elem P e 1 by_) (h1 : (enc a).oneCell' = true)
  (hd : Nat.blt d s.n = true) (h : ∀ v w', M w0 S w' (rs ++ [Rg.sl enc e v [a]]) → wpE P ops Q s rest ((d, v) :: env) w') : wpE P ops Q s (⟨some d, .buildSlice t 1 #[(0, x)], ty, pos, aft, none⟩ :: rest) env w :=
 E.mk1 a hx ht hE h1 w.heap.size (Nat.le_refl _) hd fun v w' ho x _ => h v w' (hM.new x (Rg.sl_new ho).1 (Rg.sl_new ho).2)
end
end Go.Proofs.Ytbinlkobmlebpaa.Sym
namespace Go.Proofs.Ytbinlkobmlebpaa.Sym
open Go.RowKit
theorem look_app (a b : Env) (j : Nat) : look (a ++ b) j = (look a j).or (look b j) := by
 induction a with
 | nil => rfl
 | cons e a ih =>
  show look ((e.1, e.2) :: (a ++ b)) j = (look ((e.1, e.2) :: a) j).or _
  rw [look_cons, look_cons, ih]
  by_cases h : e.1 = j
  · simp [h]
  · simp [h]
theorem Sub.app {a b env : Env} (h : Sub a env) (k : Sub b env) : Sub (a ++ b) env := fun i v hv => by
 rw [look_app] at hv
 cases ha : look a i with
 | some u => rw [ha] at hv; exact h i v (by rw [ha]; exact hv)
 | none => rw [ha] at hv; exact k i v hv
def now : Env → Env → Env
 | [], _ => []
 | (i, _) :: r, env => match look env i with
  | some v => (i, v) :: now r env
  | none => now r env
theorem Sub.now : ∀ (E env : Env), Sub (now E env) env
 | [], env => Sub.nil env
 | (i, u) :: r, env => by
  unfold Sym.now
  cases h : look env i with
  | none => exact Sub.now r env
  | some v => exact Sub.cons h (Sub.now r env)
theorem Sub.same {E env : Env} (h : Sym.now E env = E) : Sub E env := by
 have := Sub.now E env
 rw [h] at this; exact this
section
variable {P : Program} {Q : Exit → Act → World → Prop} {s : St} {env : Env} {w : World}
def Join0 (s : St) (mods : Env) (φ : World → Prop) (E0 : Env) (a : Act) (w : World) : Prop := Sat s a (mods ++ E0) ∧ φ w
theorem C.cut0 (E0 : Env) (_hE : now E0 env = E0) (mods : Env) (φ : World → Prop) {x y : Code} (hx : wpC P x (Exit.then (Join0 s mods φ E0) Q) s env w) (hy : ∀ w, φ w → wpC P y Q s (mods ++ E0) w) : wpC P (.seq x y) Q s env w := fun a ha =>
 wp_seq (wp_mono (hx a ha) fun e a' w' h => by
  cases e with
  | normal => obtain ⟨h1, h2⟩ := h; exact hy w' h2 a' h1
  | _ => exact h)
theorem X.join0 {mods : Env} {φ : World → Prop} {E0 : Env}  (r : Sub (mods) env) (hs : now E0 env = E0) (h : φ w) : wpX .normal (Exit.then (Join0 s mods φ E0) Q) s env w := fun _ ha => ⟨ha.sub (Sub.app r (Sub.same hs)), h⟩
def Join1 {A0 : Type} (s : St) (mods : A0 → Env) (φ : A0 → World → Prop) (E0 : Env) (a : Act) (w : World) : Prop := ∃ x0, Sat s a (mods x0 ++ E0) ∧ φ x0 w
theorem C.cut1 {A0 : Type} (E0 : Env) (_hE : now E0 env = E0) (mods : A0 → Env) (φ : A0 → World → Prop) {x y : Code} (hx : wpC P x (Exit.then (Join1 s mods φ E0) Q) s env w) (hy : ∀ x0 w, φ x0 w → wpC P y Q s (mods x0 ++ E0) w) : wpC P (.seq x y) Q s env w := fun a ha =>
 wp_seq (wp_mono (hx a ha) fun e a' w' h => by
  cases e with
  | normal => obtain ⟨x0, h1, h2⟩ := h; exact hy x0 w' h2 a' h1
  | _ => exact h)
theorem X.join1 {A0 : Type} {mods : A0 → Env} {φ : A0 → World → Prop} {E0 : Env} (x0 : A0) (r : Sub (mods x0) env) (hs : now E0 env = E0) (h : φ x0 w) : wpX .normal (Exit.then (Join1 s mods φ E0) Q) s env w := fun _ ha => ⟨x0, ha.sub (Sub.app r (Sub.same hs)), h⟩
def Again1 {A0 : Type} (s : St) (mods : A0 → Env) (φ : A0 → World → Prop) (μ : A0 → Nat) (E0 : Env) (m : Nat) (a : Act) (w : World) : Prop := ∃ x0, Sat s a (mods x0 ++ E0) ∧ φ x0 w ∧ μ x0 < m
theorem C.loop1 {A0 : Type} (E0 : Env) (hE : now E0 env = E0) (mods : A0 → Env) (φ : A0 → World → Prop) (μ : A0 → Nat) (x0 : A0) {c : Code} (h0 : Sub (mods x0) env) (hφ : φ x0 w)
  (round : ∀ x0 w, φ x0 w → wpC P c (Exit.then (Again1 s mods φ μ E0 (μ x0)) Q) s (mods x0 ++ E0) w) : wpC P (.loop c) Q s env w :=
 C.loop (G := A0) (fun g => mods g ++ E0) (fun g w => φ g w) (fun g => μ g) x0 (Sub.app h0 (Sub.same hE)) hφ fun g w hg a ha => wp_mono (round g w hg a ha) fun e a' w' h => by
  cases e with
  | normal => obtain ⟨x0, h1, h2, h3⟩ := h; exact ⟨x0, h1, h2, h3⟩
  | _ => exact h
theorem X.again1 {A0 : Type} {mods : A0 → Env} {φ : A0 → World → Prop} {μ : A0 → Nat} {E0 : Env} {m : Nat} (x0 : A0) (r : Sub (mods x0) env) (hs : now E0 env = E0) (h : φ x0 w) (hm : μ x0 < m) : wpX .normal (Exit.then (Again1 s mods φ μ E0 m) Q) s env w := fun _ ha => ⟨x0, ha.sub (Sub.app r (Sub.same hs)), h, hm⟩
def Join2 {A0 A1 : Type} (s : St) (mods : A0 → A1 → Env) (φ : A0 → A1 → World → Prop) (E0 : Env) (a : Act) (w : World) : Prop := ∃ x0 x1, Sat s a (mods x0 x1 ++ E0) ∧ φ x0 x1 w
theorem C.cut2 {A0 A1 : Type} (E0 : Env) (_hE : now E0 env = E0) (mods : A0 → A1 → Env) (φ : A0 → A1 → World → Prop) {x y : Code} (hx : wpC P x (Exit.then (Join2 s mods φ E0) Q) s env w) (hy : ∀ x0 x1 w, φ x0 x1 w → wpC P y Q s (mods x0 x1 ++ E0) w) : wpC P (.seq x y) Q s env w := fun a ha =>
 wp_seq (wp_mono (hx a ha) fun e a' w' h => by
  cases e with
  | normal => obtain ⟨x0, x1, h1, h2⟩ := h; exact hy x0 x1 w' h2 a' h1
  | _ => exact h)
theorem X.join2 {A0 A1 : Type} {mods : A0 → A1 → Env} {φ : A0 → A1 → World → Prop} {E0 : Env} (x0 : A0) (x1 : A1) (r : Sub (mods x0 x1) env) (hs : now E0 env = E0) (h : φ x0 x1 w) : wpX .normal (Exit.then (Join2 s mods φ E0) Q) s env w := fun _ ha => ⟨x0, x1, ha.sub (Sub.app r (Sub.same hs)), h⟩
def Again2 {A0 A1 : Type} (s : St) (mods : A0 → A1 → Env) (φ : A0 → A1 → World → Prop) (μ : A0 → A1 → Nat) (E0 : Env) (m : Nat) (a : Act) (w : World) : Prop := ∃ x0 x1, Sat s a (mods x0 x1 ++ E0) ∧ φ x0 x1 w ∧ μ x0 x1 < m
theorem C.loop2 {A0 A1 : Type} (E0 : Env) (hE : now E0 env = E0) (mods : A0 → A1 → Env) (φ : A0 → A1 → World → Prop) (μ : A0 → A1 → Nat) (x0 : A0) (x1 : A1) {c : Code} (h0 : Sub (mods x0 x1) env) (hφ : φ x0 x1 w)
  (round : ∀ x0 x1 w, φ x0 x1 w → wpC P c (Exit.then (Again2 s mods φ μ E0 (μ x0 x1)) Q) s (mods x0 x1 ++ E0) w) : wpC P (.loop c) Q s env w :=
 C.loop (G := A0 × A1) (fun g => mods g.1 g.2 ++ E0) (fun g w => φ g.1 g.2 w) (fun g => μ g.1 g.2) (x0, x1) (Sub.app h0 (Sub.same hE)) hφ fun g w hg a ha => wp_mono (round g.1 g.2 w hg a ha) fun e a' w' h => by
  cases e with
  | normal => obtain ⟨x0, x1, h1, h2, h3⟩ := h; exact ⟨(x0, x1), h1, h2, h3⟩
  | _ => exact h
theorem X.again2 {A0 A1 : Type} {mods : A0 → A1 → Env} {φ : A0 → A1 → World → Prop} {μ : A0 → A1 → Nat} {E0 : Env} {m : Nat} (x0 : A0) (x1 : A1) (r : Sub (mods x0 x1) env) (hs : now E0 env = E0) (h : φ x0 x1 w) (hm : μ x0 x1 < m) : wpX .normal (Exit.then (Again2 s mods φ μ E0 m) Q) s env w := fun _ ha => ⟨x0, x1, ha.sub (Sub.app r (Sub.same hs)), h, hm⟩
def Again3 {A0 A1 A2 : Type} (s : St) (mods : A0 → A1 → A2 → Env) (φ : A0 → A1 → A2 → World → Prop) (μ : A0 → A1 → A2 → Nat) (E0 : Env) (m : Nat) (a : Act) (w : World) : Prop := ∃ x0 x1 x2, Sat s a (mods x0 x1 x2 ++ E0) ∧ φ x0 x1 x2 w ∧ μ x0 x1 x2 < m
theorem C.loop3 {A0 A1 A2 : Type} (E0 : Env) (hE : now E0 env = E0) (mods : A0 → A1 → A2 → Env) (φ : A0 → A1 → A2 → World → Prop) (μ : A0 → A1 → A2 → Nat) (x0 : A0) (x1 : A1) (x2 : A2) {c : Code} (h0 : Sub (mods x0 x1 x2) env) (hφ : φ x0 x1 x2 w)
  (round : ∀ x0 x1 x2 w, φ x0 x1 x2 w → wpC P c (Exit.then (Again3 s mods φ μ E0 (μ x0 x1 x2)) Q) s (mods x0 x1 x2 ++ E0) w) : wpC P (.loop c) Q s env w :=
 C.loop (G := A0 × A1 × A2) (fun g => mods g.1 g.2.1 g.2.2 ++ E0) (fun g w => φ g.1 g.2.1 g.2.2 w) (fun g => μ g.1 g.2.1 g.2.2) (x0, x1, x2) (Sub.app h0 (Sub.same hE)) hφ fun g w hg a ha => wp_mono (round g.1 g.2.1 g.2.2 w hg a ha) fun e a' w' h => by
  cases e with
  | normal => obtain ⟨x0, x1, x2, h1, h2, h3⟩ := h; exact ⟨(x0, x1, x2), h1, h2, h3⟩
  | _ => exact h
theorem X.again3 {A0 A1 A2 : Type} {mods : A0 → A1 → A2 → Env} {φ : A0 → A1 → A2 → World → Prop} {μ : A0 → A1 → A2 → Nat} {E0 : Env} {m : Nat} (x0 : A0) (x1 : A1) (x2 : A2) (r : Sub (mods x0 x1 x2) env) (hs : now E0 env = E0) (h : φ x0 x1 x2 w) (hm : μ x0 x1 x2 < m) : wpX .normal (Exit.then (Again3 s mods φ μ E0 m) Q) s env w := fun _ ha => ⟨x0, x1, x2, ha.sub (Sub.app r (Sub.same hs)), h, hm⟩
def Again4 {A0 A1 A2 A3 : Type} (s : St) (mods : A0 → A1 → A2 → A3 → Env) (φ : A0 → A1 → A2 → A3 → World → Prop) (μ : A0 → A1 → A2 → A3 → Nat) (E0 : Env) (m : Nat) (a : Act) (w : World) : Prop := ∃ x0 x1 x2 x3, Sat s a (mods x0 x1 x2 x3 ++ E0) ∧ φ x0 x1 x2 x3 w ∧ μ x0 x1 x2 x3 < m
theorem C.loop4 {A0 A1 A2 A3 : Type} (E0 : Env) (hE : now E0 env = E0) (mods : A0 → A1 → A2 → A3 → Env) (φ : A0 → A1 → A2 → A3 → World → Prop) (μ : A0 → A1 → A2 → A3 → Nat) (x0 : A0) (x1 : A1) (x2 : A2) (x3 : A3) {c : Code} (h0 : Sub (mods x0 x1 x2 x3) env) (hφ : φ x0 x1 x2 x3 w)
  (round : ∀ x0 x1 x2 x3 w, φ x0 x1 x2 x3 w → wpC P c (Exit.then (Again4 s mods φ μ E0 (μ x0 x1 x2 x3)) Q) s (mods x0 x1 x2 x3 ++ E0) w) : wpC P (.loop c) Q s env w :=
 C.loop (G := A0 × A1 × A2 × A3) (fun g => mods g.1 g.2.1 g.2.2.1 g.2.2.2 ++ E0) (fun g w => φ g.1 g.2.1 g.2.2.1 g.2.2.2 w) (fun g => μ g.1 g.2.1 g.2.2.1 g.2.2.2) (x0, x1, x2, x3) (Sub.app h0 (Sub.same hE)) hφ fun g w hg a ha => wp_mono (round g.1 g.2.1 g.2.2.1 g.2.2.2 w hg a ha) fun e a' w' h => by
  cases e with
  | normal => obtain ⟨x0, x1, x2, x3, h1, h2, h3⟩ := h; exact ⟨(x0, x1, x2, x3), h1, h2, h3⟩
  | _ => exact h
theorem X.again4 {A0 A1 A2 A3 : Type} {mods : A0 → A1 → A2 → A3 → Env} {φ : A0 → A1 → A2 → A3 → World → Prop} {μ : A0 → A1 → A2 → A3 → Nat} {E0 : Env} {m : Nat} (x0 : A0) (x1 : A1) (x2 : A2) (x3 : A3) (r : Sub (mods x0 x1 x2 x3) env) (hs : now E0 env = E0) (h : φ x0 x1 x2 x3 w) (hm : μ x0 x1 x2 x3 < m) : wpX .normal (Exit.then (Again4 s mods φ μ E0 m) Q) s env w := fun _ ha => ⟨x0, x1, x2, x3, ha.sub (Sub.app r (Sub.same hs)), h, hm⟩
theorem C.chainE (E0 : Env) (hE : now E0 env = E0) (mods : Env) {x y : Code} (hx : wpC P x (Exit.then (Join0 s mods (fun w' => w' = w) E0) Q) s env w) (hy : wpC P y Q s (mods ++ E0) w) : wpC P (.seq x y) Q s env w := C.cut0 E0 hE mods _ hx fun _ h => h ▸ hy
theorem C.chainQ (E0 : Env) (hE : now E0 env = E0) (mods : Env) {x y : Code} (hx : wpC P x (Exit.then (Join0 s mods (fun w' => Ext w w') E0) Q) s env w) (hy : ∀ w', Ext w w' → wpC P y Q s (mods ++ E0) w') : wpC P (.seq x y) Q s env w := C.cut0 E0 hE mods _ hx hy
end
theorem M.pair {w w' : World} {r q : Rg} (x : Ext w w') (hr : r.ok w') (hf : ∀ k, r.fp k → w.heap.size ≤ k) (hq : q.ok w') (hg : ∀ k, q.fp k → w.heap.size ≤ k) (ha : ∀ k, r.fp k → ¬ q.fp k) : M w Nn w' [r, q] := by
  have two : ∀ (i : Nat) p, [r, q][i]? = some p → (i = 0 ∧ p = r) ∨ (i = 1 ∧ p = q) := fun i p hi => by
    match i with
    | 0 => exact .inl ⟨rfl, by simpa using hi.symm⟩
    | 1 => exact .inr ⟨rfl, by simpa using hi.symm⟩
    | i + 2 => simp at hi
  refine ⟨⟨fun i p hi => ?_, fun i j p p' hi hj hne k hk hk' => ?_⟩, fun i p hi k hk => ?_, FrS.ofExt x⟩
  · rcases two i p hi with ⟨_, rfl⟩ | ⟨_, rfl⟩
    · exact hr
    · exact hq
  · rcases two i p hi with ⟨ei, ep⟩ | ⟨ei, ep⟩ <;> rcases two j p' hj with ⟨ej, ep'⟩ | ⟨ej, ep'⟩
    · omega
    · exact ha k (ep ▸ hk) (ep' ▸ hk')
    · exact ha k (ep' ▸ hk') (ep ▸ hk)
    · omega
  · rcases two i p hi with ⟨_, rfl⟩ | ⟨_, rfl⟩
    · exact .inr (hf k hk)
    · exact .inr (hg k hk)
theorem Rd.one {w : World} {sz n : Nat} {v : Value} {cs : List Value} (h : Rd w sz v n cs) : v.oneCell' = true := by obtain ⟨a, cap, rfl⟩ := h.shape; rfl
theorem RdL.one {α : Type} {enc : α → Value} {w : World} {v : Value} {l : List α} (h : RdL enc w v l) : v.oneCell' = true := Rd.one h
theorem RdF.one {α : Type} {enc : α → List Value} {sz : Nat} {w : World} {v : Value} {l : List α} (h : RdF enc sz w v l) : v.oneCell' = true := Rd.one h.2
theorem RdL.cellA {α : Type} {enc : α → Value} {w : World} {v : Value} {l : List α} (h : RdL enc w v l) {ad : Addr} {j : Nat} (had : ad = el v j) (hj : j < l.length) : w.cell? ad = some (enc l[j]) := had ▸ h.cell hj
theorem ones_nil : ∀ u ∈ ([] : List Value), u.oneCell' = true := by simp
theorem ones {a : Value} {l : List Value} (h : a.oneCell' = true) (t : ∀ u ∈ l, u.oneCell' = true) : ∀ u ∈ a :: l, u.oneCell' = true := fun u hu => by
 rcases List.mem_cons.1 hu with rfl | hu
 · exact h
 · exact t u hu
def tab {α : Type} (n : Nat) (f : Nat → α) : List α := (List.range n).map f
theorem tab_len {α : Type} (n : Nat) (f : Nat → α) : (tab n f).length = n := by simp [tab]
theorem tab_get {α : Type} {n : Nat} {f : Nat → α} {i : Nat} (h : i < n) : (tab n f)[i]? = some (f i) := by simp [tab, h]
theorem tab_eq {α : Type} {l : List α} {n : Nat} {f : Nat → α} (hl : l.length = n) (h : ∀ i, i < n → l[i]? = some (f i)) : l = tab n f := by
 apply List.ext_getElem?
 intro i
 by_cases hi : i < n
 · rw [h i hi, tab_get hi]
 · rw [List.getElem?_eq_none (by omega), List.getElem?_eq_none (by rw [tab_len]; omega)]
def Part (sz : Nat) (v v' : Value) (lo hi : Nat) : Prop := ∃ a n cap, v = .slice a n cap ∧ lo ≤ hi ∧ hi ≤ n ∧ v' = .slice (if cap = lo then a else a.map (·.add (lo * sz))) (hi - lo) (cap - lo)
theorem Rd.ofPart {w : World} {sz n lo hi : Nat} {v v' : Value} {cs : List Value} (h : Rd w sz v n cs) (p : Part sz v v' lo hi) : Rd w sz v' (hi - lo) ((cs.drop (lo * sz)).take ((hi - lo) * sz)) := by
 obtain ⟨a, m, cap, rfl, h1, h2, rfl⟩ := p
 obtain ⟨a', cap', h3, h4⟩ := h
 obtain ⟨rfl, rfl, rfl⟩ : a = a' ∧ m = n ∧ cap = cap' := by simpa using h3
 exact (Rd.part ⟨a, cap, rfl, h4⟩ rfl h1 h2).1
theorem RdL.part {α : Type} {enc : α → Value} {w : World} {v v' : Value} {l : List α} {lo hi : Nat} (h : RdL enc w v l) (p : Part 1 v v' lo hi) : RdL enc w v' (cutL lo hi l) := by
 have p' := p
 obtain ⟨a, m, cap, rfl, h1, h2, _⟩ := p'
 obtain ⟨a', cap', h3⟩ := Rd.shape h
 have hm : m = l.length := by simp at h3; exact h3.2.1
 subst hm
 exact RdL.ofPart h1 h2 (Rd.ofPart h p)
theorem Part.bs {sz lo hi : Nat} {v v' : Value} (p : Part sz v v' lo hi) : (bs v').1 = (bs v).1 := by
  obtain ⟨a, m, cap, rfl, h1, h2, rfl⟩ := p
  split
  · cases a <;> rfl
  · cases a with
    | none => rfl
    | some ad => simp only [Option.map_some, Sym.bs, Addr.add]; split <;> rfl
section
variable {α : Type} {enc : α → List Value} {sz : Nat} {w : World} {v : Value} {l : List α}
theorem RdF.at (h : RdF enc sz w v l) {k o : Nat} (hk : k < l.length) {u : Value} (hu : (enc l[k])[o]? = some u) : w.cell? ⟨(bs v).1, (bs v).2 + k * sz + o, none⟩ = some u := by
 rw [Nat.add_assoc]; exact h.cell hk o hu
theorem RdF.atA (h : RdF enc sz w v l) {ad : Addr} {k o : Nat} (had : ad = ⟨(bs v).1, (bs v).2 + k * sz + o, none⟩) (hk : k < l.length) {u : Value} (hu : (enc l[k])[o]? = some u) : w.cell? ad = some u := had ▸ h.at hk hu
theorem RdF.all (h : RdF enc sz w v l) {k : Nat} (hk : k < l.length) : At w (bs v).1 ((bs v).2 + k * sz) (enc l[k]) := fun j u hu => h.at hk hu
end
section
variable {P : Program} {ops : Array Oper} {Q : Exit → Act → World → Prop} {Qn Lq : Act → Prop} {s : St} {env : Env} {w : World} {rest : List Oper}
variable {d : Nat} {ty : TypeId} {pos : String} {aft : Array Edge}
theorem E.idx1 {α : Type} {enc : α → Value} {l : List α} {t e : TypeId} {x ix : Operand} {kd : IntKind} {i : Int} {v : Value} (k : Nat) (hx : ev env x = some v) (hi : ev env ix = some (.int kd i)) (hR : RdL enc w v l) (hk : i = (k : Int)) (h1 : k < l.length)
  (ht : P.underlying t = some (.slice e)) (hs : (P.info? e).map (·.size) = some 1) (hd : Nat.blt d s.n = true) (h : wpE P ops Q s rest ((d, .pointer (some (el v k))) :: env) w) : wpE P ops Q s (⟨some d, .indexAddr t x ix, ty, pos, aft, none⟩ :: rest) env w := by
 subst hk
 have e0 : (k : Int).toNat * 1 = k := by omega
 refine E.idx hx hi hR ht hs (by omega) (by omega) (by decide) hd ?_
 rw [e0]; exact h
theorem E.idxF {α : Type} {enc : α → List Value} {sz : Nat} {l : List α} {t e : TypeId} {x ix : Operand} {kd : IntKind} {i : Int} {v : Value} (k : Nat) (hx : ev env x = some v) (hi : ev env ix = some (.int kd i)) (hR : RdF enc sz w v l) (hk : i = (k : Int)) (h1 : k < l.length) (hsz : 0 < sz)
  (ht : P.underlying t = some (.slice e)) (hs : (P.info? e).map (·.size) = some sz) (hd : Nat.blt d s.n = true) (h : wpE P ops Q s rest ((d, .pointer (some (el v (k * sz)))) :: env) w) : wpE P ops Q s (⟨some d, .indexAddr t x ix, ty, pos, aft, none⟩ :: rest) env w := by
 subst hk
 have e0 : (k : Int).toNat = k := by omega
 refine E.idx hx hi hR.rd ht hs (by omega) (by omega) hsz hd ?_
 rw [e0]; exact h
theorem Q.idx1 {α : Type} {enc : α → Value} {l : List α} {t e : TypeId} {x ix : Operand} {kd : IntKind} {i : Int} {v : Value} (k : Nat) (hx : ev env x = some v) (hi : ev env ix = some (.int kd i)) (hR : RdL enc w v l) (hk : i = (k : Int)) (h1 : k < l.length)
  (ht : P.underlying t = some (.slice e)) (hs : (P.info? e).map (·.size) = some 1) (hd : Nat.blt d s.n = true) (h : wpQ P ops w Qn s rest ((d, .pointer (some (el v k))) :: env)) : wpQ P ops w Qn s (⟨some d, .indexAddr t x ix, ty, pos, aft, none⟩ :: rest) env := by
 subst hk
 have e0 : (k : Int).toNat * 1 = k := by omega
 refine Q.idx hx hi hR ht hs (by omega) (by omega) (by decide) hd ?_
 rw [e0]; exact h
theorem Q.idxF {α : Type} {enc : α → List Value} {sz : Nat} {l : List α} {t e : TypeId} {x ix : Operand} {kd : IntKind} {i : Int} {v : Value} (k : Nat) (hx : ev env x = some v) (hi : ev env ix = some (.int kd i)) (hR : RdF enc sz w v l) (hk : i = (k : Int)) (h1 : k < l.length) (hsz : 0 < sz)
  (ht : P.underlying t = some (.slice e)) (hs : (P.info? e).map (·.size) = some sz) (hd : Nat.blt d s.n = true) (h : wpQ P ops w Qn s rest ((d, .pointer (some (el v (k * sz)))) :: env)) : wpQ P ops w Qn s (⟨some d, .indexAddr t x ix, ty, pos, aft, none⟩ :: rest) env := by
 subst hk
 have e0 : (k : Int).toNat = k := by omega
 refine Q.idx hx hi hR.rd ht hs (by omega) (by omega) hsz hd ?_
 rw [e0]; exact h
theorem S.idx1 {α : Type} {enc : α → Value} {l : List α} {t e : TypeId} {x ix : Operand} {kd : IntKind} {i : Int} {v : Value} (k : Nat) (hx : ev env x = some v) (hi : ev env ix = some (.int kd i)) (hR : RdL enc w v l) (hk : i = (k : Int)) (h1 : k < l.length)
  (ht : P.underlying t = some (.slice e)) (hs : (P.info? e).map (·.size) = some 1) (hd : Nat.blt d s.n = true) (h : wpS P ops Lq s rest ((d, .pointer (some (el v k))) :: env) w) : wpS P ops Lq s (⟨some d, .indexAddr t x ix, ty, pos, aft, none⟩ :: rest) env w := by
 subst hk
 have e0 : (k : Int).toNat * 1 = k := by omega
 refine S.idx hx hi hR ht hs (by omega) (by omega) (by decide) hd ?_
 rw [e0]; exact h
theorem S.idxF {α : Type} {enc : α → List Value} {sz : Nat} {l : List α} {t e : TypeId} {x ix : Operand} {kd : IntKind} {i : Int} {v : Value} (k : Nat) (hx : ev env x = some v) (hi : ev env ix = some (.int kd i)) (hR : RdF enc sz w v l) (hk : i = (k : Int)) (h1 : k < l.length) (hsz : 0 < sz)
  (ht : P.underlying t = some (.slice e)) (hs : (P.info? e).map (·.size) = some sz) (hd : Nat.blt d s.n = true) (h : wpS P ops Lq s rest ((d, .pointer (some (el v (k * sz)))) :: env) w) : wpS P ops Lq s (⟨some d, .indexAddr t x ix, ty, pos, aft, none⟩ :: rest) env w := by
 subst hk
 have e0 : (k : Int).toNat = k := by omega
 refine S.idx hx hi hR.rd ht hs (by omega) (by omega) hsz hd ?_
 rw [e0]; exact h
theorem Y.idx1 {α : Type} {enc : α → Value} {l : List α} {t e : TypeId} {x ix : Operand} {kd : IntKind} {i : Int} {v : Value} (k : Nat) (hx : ev env x = some v) (hi : ev env ix = some (.int kd i)) (hR : RdL enc w v l) (hk : i = (k : Int)) (h1 : k < l.length)
  (ht : P.underlying t = some (.slice e)) (hs : (P.info? e).map (·.size) = some 1) : Yld P ops s env w ⟨some d, .indexAddr t x ix, ty, pos, aft, none⟩ (.pointer (some (el v k))) := by
 subst hk
 have e0 : (k : Int).toNat * 1 = k := by omega
 have := Y.idx (P := P) (ops := ops) (s := s) (d := d) (ty := ty) (pos := pos) (aft := aft) hx hi hR ht hs (by omega) (by omega) (by decide)
 rw [e0] at this; exact this
theorem Y.idxF {α : Type} {enc : α → List Value} {sz : Nat} {l : List α} {t e : TypeId} {x ix : Operand} {kd : IntKind} {i : Int} {v : Value} (k : Nat) (hx : ev env x = some v) (hi : ev env ix = some (.int kd i)) (hR : RdF enc sz w v l) (hk : i = (k : Int)) (h1 : k < l.length) (hsz : 0 < sz)
  (ht : P.underlying t = some (.slice e)) (hs : (P.info? e).map (·.size) = some sz) : Yld P ops s env w ⟨some d, .indexAddr t x ix, ty, pos, aft, none⟩ (.pointer (some (el v (k * sz)))) := by
 subst hk
 have e0 : (k : Int).toNat = k := by omega
 have := Y.idx (P := P) (ops := ops) (s := s) (d := d) (ty := ty) (pos := pos) (aft := aft) hx hi hR.rd ht hs (by omega) (by omega) hsz
 rw [e0] at this; exact this
theorem retAT {fn : Func} {n t u T : Nat} {ty : TypeId} {b : Nat} {cs : List Value} {v2 : Value} {ds : TypeDesc} {Φ : Value → World → Prop} (hres : fn.results = #[.cell t ty, .tmp u]) (hv : look env t = some (.pointer (some ⟨b, 0, none⟩))) (h2 : look env u = some v2)
  (ht : P.underlying ty = some ds) (hna : (match ds with | .struct _ | .array _ _ => true | _ => false) = true) (hb : Blk w b T cs.toArray) (hs : (P.info? ty).map (·.size) = some cs.length) (h : Φ (.tuple #[.agg cs.toArray, v2]) w) :
  wpX .ret (bodyPost P fn (RetPost Φ)) ⟨n, []⟩ env w :=
 retG (fun a ha => by
  have hp' : a.tmps[t]?.getD undef = .pointer (some ⟨b, 0, none⟩) := by simp [ha.get t _ hv]
  simp [results, hres, hp', asAddr, run_loadVar_row w b T ty cs.toArray (0, 0) ds hb ht hna (by simpa using hs), ha.get u v2 h2]) h
end
section
variable {P : Program} {ops : Array Oper} {Q : Exit → Act → World → Prop} {Qn : Act → Prop} {s : St} {env : Env} {w0 w : World} {S : Nat → Prop} {rs : List Rg} {rest : List Oper}
variable {d : Nat} {ty : TypeId} {pos : String} {aft : Array Edge}
theorem C.heldE {id : Nat} {l : List Oper} (hm : P.follows .mixedOrders = true) (h : ∀ w', Ext w w' → w'.heap = w.heap → wpH P l.toArray Q (Ext w) s l.length (Array.replicate l.length false) env w') : wpC P (.region id l.toArray true) Q s env w := C.held (Ext w) hm h
theorem C.heldM {id : Nat} {l : List Oper} (hM : M w0 S w rs) (is : List Nat) (hn : is.Nodup) (hm : P.follows .mixedOrders = true) (h : ∀ w', M w0 S w' rs → M w0 S w' (is.filterMap (rs[·]?)) → wpH P l.toArray Q (fun w' => M w0 S w' (is.filterMap (rs[·]?))) s l.length (Array.replicate l.length false) env w') : wpC P (.region id l.toArray true) Q s env w :=
 C.held _ hm fun w' hx _ => h w' (hM.ext hx) ((hM.ext hx).pick is hn)
theorem H.takeV {S : World → Prop} {fuel : Nat} {listed : Array Bool} {o : Oper} {v : Value} (i : Nat) (hi : ops[i]? = some o) (hdst : o.dst = some d) (hs : Region.noSelect ops = true) (hf : Region.free .any ops listed i = true) (hr : (Region.ready .any ops listed).contains i = true)
  (hS : S w) (_hv : Yld P ops s env w o v) (hy : ∀ w', S w' → Yld P ops s env w' o v) (hd : Nat.blt d s.n = true) (h : wpH P ops Q S s fuel (listed.setIfInBounds i true) ((d, v) :: env) w) : wpH P ops Q S s (fuel + 1) listed env w := H.take i hi hdst hs hf hr hS hy hd h
theorem H.split {S : World → Prop} {fuel : Nat} {listed : Array Bool} {b : Bool} (t : Nat) (hb : look env t = some (.bool b)) (ht : b = true → wpH P ops Q S s fuel listed ((t, .bool true) :: env) w) (hf : b = false → wpH P ops Q S s fuel listed ((t, .bool false) :: env) w) : wpH P ops Q S s fuel listed env w := by
 cases b with
 | true => exact fun a ha => ht rfl a (ha.sub (Sub.cons hb (Sub.refl env)))
 | false => exact fun a ha => hf rfl a (ha.sub (Sub.cons hb (Sub.refl env)))
theorem S.split {Lq : Act → Prop} {l : List Oper} {b : Bool} (t : Nat) (hb : look env t = some (.bool b)) (ht : b = true → wpS P ops Lq s l ((t, .bool true) :: env) w) (hf : b = false → wpS P ops Lq s l ((t, .bool false) :: env) w) : wpS P ops Lq s l env w := by
 cases b with
 | true => exact fun a ha => ht rfl a (ha.sub (Sub.cons hb (Sub.refl env)))
 | false => exact fun a ha => hf rfl a (ha.sub (Sub.cons hb (Sub.refl env)))
theorem H.two {S : World → Prop} {fuel : Nat} {listed : Array Bool} {oi oj : Oper} (i j : Nat) (hi : ops[i]? = some oi) (hj : ops[j]? = some oj) (hr : Region.ready .any ops listed = [i, j]) (h1 : wpE P ops (HQ P ops Q S fuel (listed.setIfInBounds i true)) s [oi] env w) (h2 : wpE P ops (HQ P ops Q S fuel (listed.setIfInBounds j true)) s [oj] env w) : wpH P ops Q S s (fuel + 1) listed env w := fun a ha => by
  refine wpAnyH_all hr (by simp) fun k hk => ?_
  have hk' : k = i ∨ k = j := by simpa using hk
  rcases hk' with rfl | rfl
  ·
    have h1' := h1 a ha
    unfold wpList at h1'
    unfold wpOp
    simp only [hi]
    split
    · rename_i hw
      rw [if_pos hw] at h1'
      rcases h1' with h1' | ⟨h1', h2'⟩
      · exact .inl (upon_HQ h1')
      · exact .inr ⟨h1', let ⟨a, w, h⟩ := h2'; ⟨a, w, h⟩⟩
    · rename_i hw
      rw [if_neg hw] at h1'
      exact h1'
  ·
    have h1' := h2 a ha
    unfold wpList at h1'
    unfold wpOp
    simp only [hj]
    split
    · rename_i hw
      rw [if_pos hw] at h1'
      rcases h1' with h1' | ⟨h1', h2'⟩
      · exact .inl (upon_HQ h1')
      · exact .inr ⟨h1', let ⟨a, w, h⟩ := h2'; ⟨a, w, h⟩⟩
    · rename_i hw
      rw [if_neg hw] at h1'
      exact h1'
theorem Q.split {l : List Oper} {b : Bool} (t : Nat) (hb : look env t = some (.bool b)) (ht : b = true → wpQ P ops w Qn s l ((t, .bool true) :: env)) (hf : b = false → wpQ P ops w Qn s l ((t, .bool false) :: env)) : wpQ P ops w Qn s l env := by
 cases b with
 | true => exact fun a ha => ht rfl a (ha.sub (Sub.cons hb (Sub.refl env)))
 | false => exact fun a ha => hf rfl a (ha.sub (Sub.cons hb (Sub.refl env)))
theorem Q.loadA {t : TypeId} {x : Operand} {b off : Nat} {cs : List Value} {ds : TypeDesc} (hx : ev env x = some (.pointer (some ⟨b, off, none⟩))) (ht : P.underlying t = some ds) (hna : (match ds with | .struct _ | .array _ _ => true | _ => false) = true)
  (hs : (P.info? t).map (·.size) = some cs.length) (hc : At w b off cs) (hd : Nat.blt d s.n = true) (h : wpQ P ops w Qn s rest ((d, .agg cs.toArray) :: env)) : wpQ P ops w Qn s (⟨some d, .load t x, ty, pos, aft, none⟩ :: rest) env :=
 Q.op (fun w' hw' a' ha => by
  have hc := hc.ext hw'
  have hagg : (isAgg t).run P w' = .ok true w' := by
   unfold isAgg
   rw [Sem.run_bind, run_underlying ht w']
   cases ds <;> simp_all
  have hl : (loadCells ⟨b, off, none⟩ cs.length).run P w' = .ok cs.toArray w' := run_loadCells_list (P := P) w' ⟨b, off, none⟩ cs (fun j v hv => by rw [addr_add]; exact hc j v hv)
  cases hq : P.info? t with
  | none => simp [hq] at hs
  | some inf =>
   have hs' : inf.size = cs.length := by simpa [hq] using hs
   simp [execOp, ha.ev hx, Instr.loadAt, Instr.sureAddr, loadVar, hagg, sizeOf, typeInfo, hq, hs', hl]) hd h
def putAt (cs : List Value) (o : Nat) (v : List Value) : List Value := cs.take o ++ v ++ cs.drop (o + v.length)
def buildCells : List Value → List Nat → List (Nat × Value) → List Value
 | zs, o :: os, v :: vs => buildCells (putAt zs o v.2.cells.toList) os vs
 | zs, _, _ => zs
theorem E.buildC {t : TypeId} {xs : List (Nat × Operand)} {vs : List (Nat × Value)} {cs : List Value} (zs : List Value) (offs : List Nat) (hx : evp env xs = some vs) (_hcs : buildCells zs offs vs = cs) (hb : (Instr.build t vs.toArray).run P w = .ok (.agg cs.toArray) w)
  (hd : Nat.blt d s.n = true) (h : wpE P ops Q s rest ((d, .agg cs.toArray) :: env) w) : wpE P ops Q s (⟨some d, .build t xs.toArray, ty, pos, aft, none⟩ :: rest) env w := E.build hx hb hd h
theorem E.mkM {α : Type} {enc : α → Value} {t e : TypeId} {n : Nat} {xs : List (Nat × Operand)} {vs : List (Nat × Value)} (l : List α) (hM : M w0 S w rs) (hx : evp env xs = some vs) (hb : ∀ w, (Instr.buildSlice t n vs.toArray).run P w = .ok (.slice (some ⟨w.heap.size, 0, none⟩) n n) (w.alloc (.cells (l.map enc).toArray e))) (hn : Nat.beq l.length n = true) (hs : Nat.ble n 1000000 = true)
  (hd : Nat.blt d s.n = true) (h : ∀ v w', M w0 S w' (rs ++ [Rg.sl enc e v l]) → wpE P ops Q s rest ((d, v) :: env) w') : wpE P ops Q s (⟨some d, .buildSlice t n xs.toArray, ty, pos, aft, none⟩ :: rest) env w := by
 have hn := Nat.eq_of_beq_eq_true hn
 have hs := Nat.le_of_ble_eq_true hs
 subst hn
 refine E.buildS hx hb hd (h _ _ (hM.new (Ext.new w _) (r := Rg.sl enc e _ l) ⟨by simp, .inr ⟨w.heap.size, l.length, (l.map enc).toArray, rfl, Nat.zero_le _, heap_alloc_new w _, Nat.le_refl _, by unfold maxLen; omega, by simp, by simp [List.take_of_length_le]⟩⟩ (fun k hk => by cases hk; exact Nat.le_refl _)))
theorem E.storeFM {α : Type} {enc : α → List Value} {sz : Nat} {e t : TypeId} {x y : Operand} {v : Value} {l : List α} {u o : Value} {k j : Nat} {ad : Addr} (i : Nat) (a' : α) (hM : M w0 S w rs) (hi : rs[i]? = some (Rg.slF enc sz e v l)) (hx : ev env x = some (.pointer (some ad))) (hy : ev env y = some u) (hs : (P.info? t).map (·.size) = some 1) (h1 : u.oneCell' = true)
  (had : ad = ⟨(bs v).1, (bs v).2 + k * sz + j, none⟩) (hk : k < l.length) (hold : (enc l[k])[j]? = some o) (he : enc a' = (enc l[k]).set j u)
  (h : ∀ w', M w0 S w' (rs.set i (Rg.slF enc sz e v (l.set k a'))) → wpE P ops Q s rest env w') : wpE P ops Q s (⟨none, .store t x y, ty, pos, aft, none⟩ :: rest) env w :=
 E.storeF j a' hx hy hs h1 (hM.ownF i hi) hk (by rw [had, Nat.add_assoc]; rfl) hold he fun w' ho g _ => h w' (hM.growF i hi ho g (.inl rfl))
end
end Go.Proofs.Ytbinlkobmlebpaa.Sym
