/- Texts of the claim, laid together: Pf9. -/
import Derived.Test.YtcmgbjmcklfkcaaDoorG12
/- prefix: items in memory; merge, packages, each. -/
namespace Go.Proofs.YtcmgbjmcklfkcaaDoor
set_option linter.unusedSimpArgs false
set_option linter.unusedVariables false
open Go.RowKit Sym

theorem elem_Tp_prefix_item_int : Elem Tryd.prog 112 1 8 := elem_of (z := .pointer none) (by kernel_rfl) rfl (by decide)
/-- an item: a single, or a package of two -/
inductive Tr where
  | leaf (f s : Nat)
  | node (a b : Tr)
def Tr.wt : Tr → Nat
  | .leaf f _ => f
  | .node a b => a.wt + b.wt
def Tr.sy : Tr → List Nat
  | .leaf _ s => [s]
  | .node a b => a.sy ++ b.sy
abbrev It := Nat × Tr
abbrev ip (x : It) : Value := pv x.1
abbrev wi (x : It) : Nat := x.2.wt
/-- the cells of an item, whose parts lie among P -/
def Cel (P : List It) : Tr → List Value → Prop
  | .leaf f s, cs => cs = [i64 f, i64 s, .pointer none, .pointer none]
  | .node a b, cs => ∃ p q, (p, a) ∈ P ∧ (q, b) ∈ P ∧ cs = [i64 ((a.wt + b.wt : Nat) : Int), i64 0, pv p, pv q]
theorem Cel.mono {P P' : List It} (h : ∀ x ∈ P, x ∈ P') {t : Tr} {cs : List Value} (hc : Cel P t cs) : Cel P' t cs := by
  cases t with
  | leaf f s => exact hc
  | node a b => obtain ⟨p, q, h1, h2, h3⟩ := hc; exact ⟨p, q, h _ h1, h _ h2, h3⟩
def Pool (w : World) (N P : List It) : Prop := ∀ x ∈ N, ∃ cs, Cel P x.2 cs ∧ Blk w x.1 114 cs.toArray
theorem Pool.ext {w w' : World} {N P : List It} (h : Pool w N P) (x : Ext w w') : Pool w' N P := fun y hy => by
  obtain ⟨cs, h1, h2⟩ := h y hy; exact ⟨cs, h1, h2.ext x⟩
theorem Pool.wt {w : World} {N P : List It} (h : Pool w N P) {x : It} (hx : x ∈ N) : w.cell? ⟨x.1, 0, none⟩ = some (i64 (wi x : Int)) := by
  obtain ⟨cs, h1, h2⟩ := h x hx
  obtain ⟨b, t⟩ := x
  rw [h2.cell]
  cases t with
  | leaf f s => rw [show cs = _ from h1]; rfl
  | node a b => obtain ⟨p, q, _, _, h3⟩ := h1; rw [h3]; rfl
theorem Pool.leaf {w : World} {N P : List It} (h : Pool w N P) {b f s : Nat} (hx : (b, Tr.leaf f s) ∈ N) : w.cell? ⟨b, 1, none⟩ = some (i64 (s : Int)) ∧ w.cell? ⟨b, 2, none⟩ = some (.pointer none) := by
  obtain ⟨cs, h1, h2⟩ := h _ hx
  have h1 : cs = _ := h1
  exact ⟨by rw [h2.cell, h1]; rfl, by rw [h2.cell, h1]; rfl⟩
theorem Pool.node {w : World} {N P : List It} (h : Pool w N P) {b : Nat} {l r : Tr} (hx : (b, Tr.node l r) ∈ N) : ∃ p q, (p, l) ∈ P ∧ (q, r) ∈ P ∧ w.cell? ⟨b, 2, none⟩ = some (pv p) ∧ w.cell? ⟨b, 3, none⟩ = some (pv q) := by
  obtain ⟨cs, ⟨p, q, k1, k2, k3⟩, h2⟩ := h _ hx
  exact ⟨p, q, k1, k2, by rw [h2.cell, k3]; rfl, by rw [h2.cell, k3]; rfl⟩
def Sym.Rg.pool (N P : List It) : Rg where
  fp k := ∃ t, (k, t) ∈ N
  ok w := Pool w N P
  keep {w w'} hk h := fun x hx => by
    obtain ⟨cs, h1, h2⟩ := h x hx
    exact ⟨cs, h1, by show w'.heap[x.1]? = _; rw [hk x.1 ⟨x.2, hx⟩]; exact h2⟩
  live {w} h k hk := by
    obtain ⟨t, ht⟩ := hk
    obtain ⟨cs, _, h2⟩ := h _ ht
    exact h2.lt
theorem Sym.M.pool {w0 w : World} {S : Nat → Prop} {rs : List Rg} {N P : List It} (h : M w0 S w rs) (i : Nat) (hi : rs[i]? = some (Rg.pool N P)) : Pool w N P := h.ok hi
/-- a new item -/
theorem Sym.M.poolAdd {w0 w : World} {S : Nat → Prop} {rs : List Rg} {N P : List It} {b : Nat} {t : Tr} {cs : List Value} (h : M w0 S w rs) (i j : Nat) (hne : i ≠ j) (hi : rs[i]? = some (Rg.pool N P)) (hj : rs[j]? = some (Rg.blk b 114 cs)) (hc : Cel P t cs) : M w0 S w ((rs.set j Rg.emp).set i (Rg.pool (N ++ [(b, t)]) P)) :=
  h.join i j hne hi hj (p := Rg.pool (N ++ [(b, t)]) P) (fun x hx => by
    rcases List.mem_append.1 hx with hx | hx
    · exact h.pool i hi x hx
    · rw [List.mem_singleton] at hx; subst hx; exact ⟨cs, hc, h.blk j hj⟩) fun k ⟨t', ht⟩ => by
    rcases List.mem_append.1 ht with hx | hx
    · exact .inl ⟨t', hx⟩
    · rw [List.mem_singleton] at hx; exact .inr (by cases hx; rfl)
theorem Sym.M.poolSub {w0 w : World} {S : Nat → Prop} {rs : List Rg} {N P P' : List It} (h : M w0 S w rs) (i : Nat) (hi : rs[i]? = some (Rg.pool N P)) (hs : ∀ x ∈ P, x ∈ P') : M w0 S w (rs.set i (Rg.pool N P')) :=
  h.weak i hi (fun x hx => by obtain ⟨cs, h1, h2⟩ := h.pool i hi x hx; exact ⟨cs, h1.mono hs, h2⟩) fun k hk => hk
theorem Sym.M.poolJoin {w0 w : World} {S : Nat → Prop} {rs : List Rg} {N N' P P' : List It} (h : M w0 S w rs) (i j : Nat) (hne : i ≠ j) (hi : rs[i]? = some (Rg.pool N P)) (hj : rs[j]? = some (Rg.pool N' P')) (hs : ∀ x ∈ P', x ∈ P) : M w0 S w ((rs.set j Rg.emp).set i (Rg.pool (N ++ N') P)) :=
  h.join i j hne hi hj (p := Rg.pool (N ++ N') P) (fun x hx => by
    rcases List.mem_append.1 hx with hx | hx
    · exact h.pool i hi x hx
    · obtain ⟨cs, h1, h2⟩ := h.pool j hj x hx; exact ⟨cs, h1.mono hs, h2⟩) fun k ⟨t', ht⟩ => by
    rcases List.mem_append.1 ht with hx | hx
    · exact .inl ⟨t', hx⟩
    · exact .inr ⟨t', hx⟩
theorem Sym.M.poolNil {w0 w : World} {S : Nat → Prop} {rs : List Rg} (h : M w0 S w rs) (P : List It) : M w0 S w (rs ++ [Rg.pool [] P]) := h.new (Ext.refl w) (r := Rg.pool [] P) (fun x hx => by cases hx) (fun k ⟨t, ht⟩ => by cases ht)
/-- two lists by weight, the first ahead -/
def mrg {α : Type} (g : α → Nat) : List α → List α → List α
  | [], ys => ys
  | x :: xs, [] => x :: xs
  | x :: xs, y :: ys => if g x ≤ g y then x :: mrg g xs (y :: ys) else y :: mrg g (x :: xs) ys
termination_by xs ys => xs.length + ys.length
theorem mrg_nil {α : Type} (g : α → Nat) (xs : List α) : mrg g xs [] = xs := by cases xs <;> rw [mrg]
theorem mrg_le {α : Type} {g : α → Nat} {xs ys : List α} {x y : α} (h : g x ≤ g y) : mrg g (x :: xs) (y :: ys) = x :: mrg g xs (y :: ys) := by rw [mrg, if_pos h]
theorem mrg_gt {α : Type} {g : α → Nat} {xs ys : List α} {x y : α} (h : ¬ g x ≤ g y) : mrg g (x :: xs) (y :: ys) = y :: mrg g (x :: xs) ys := by rw [mrg, if_neg h]
theorem mrg_len {α : Type} (g : α → Nat) : ∀ (xs ys : List α), (mrg g xs ys).length = xs.length + ys.length
  | [], ys => by rw [mrg]; simp
  | x :: xs, [] => by rw [mrg_nil]; simp
  | x :: xs, y :: ys => by
    by_cases h : g x ≤ g y
    · rw [mrg_le h, List.length_cons, mrg_len g xs (y :: ys)]; simp; omega
    · rw [mrg_gt h, List.length_cons, mrg_len g (x :: xs) ys]; simp; omega
termination_by xs ys => xs.length + ys.length
theorem mrg_mem {α : Type} (g : α → Nat) : ∀ (xs ys : List α) (z : α), z ∈ mrg g xs ys ↔ z ∈ xs ∨ z ∈ ys
  | [], ys, z => by rw [mrg]; simp
  | x :: xs, [], z => by rw [mrg_nil]; simp
  | x :: xs, y :: ys, z => by
    by_cases h : g x ≤ g y
    · rw [mrg_le h, List.mem_cons, mrg_mem g xs (y :: ys)]; simp only [List.mem_cons]; exact or_assoc.symm
    · rw [mrg_gt h, List.mem_cons, mrg_mem g (x :: xs) ys]; simp only [List.mem_cons]; constructor
      · rintro (h | h | h)
        · exact .inr (.inl h)
        · exact .inl h
        · exact .inr (.inr h)
      · rintro (h | h | h)
        · exact .inr (.inl h)
        · exact .inl h
        · exact .inr (.inr h)
termination_by xs ys => xs.length + ys.length
theorem mrg_map {α β : Type} (g : α → Nat) (g' : β → Nat) (m : α → β) (hg : ∀ a, g' (m a) = g a) : ∀ (xs ys : List α), (mrg g xs ys).map m = mrg g' (xs.map m) (ys.map m)
  | [], ys => by rw [mrg, List.map_nil, mrg]
  | x :: xs, [] => by rw [mrg_nil, List.map_nil, mrg_nil]
  | x :: xs, y :: ys => by
    simp only [List.map_cons]
    by_cases h : g x ≤ g y
    · rw [mrg_le h, mrg_le (by rw [hg, hg]; exact h), List.map_cons, mrg_map g g' m hg xs (y :: ys)]; rfl
    · rw [mrg_gt h, mrg_gt (by rw [hg, hg]; exact h), List.map_cons, mrg_map g g' m hg (x :: xs) ys]; rfl
termination_by xs ys => xs.length + ys.length
theorem tail_part {α : Type} {enc : α → Value} {w : World} {v : Value} {x : α} {l : List α} (h : RdL enc w v (x :: l)) : RdL enc w (partV v 1 (x :: l).length) l := by
  have h1 := h.partV (a := 1) (b := (x :: l).length) (by simp) (Nat.le_refl _)
  have e : cutL 1 (x :: l).length (x :: l) = l := by simp [cutL]
  rw [e] at h1; exact h1
theorem isNaN_ret (z : Int) (w : World) :
    Ret Tryd.prog 96 #[i64 z] w fun v w' => v = .bool false ∧ Ext w w' := by
  have hM := M.start w
  refine enter Tryd.func96 rfl (by kernel_rfl) Tryd.ntmps96 rfl ?_
  refine C.seq <| C.region <| E.asg rfl rfl <| E.nil <| X.next <| C.seq <| C.region <| E.mv rfl rfl <| E.mv rfl rfl <| E.bin rfl rfl rfl rfl <| E.asg rfl rfl <| E.nil <| X.next <| C.ret <| ret1 rfl rfl ?_
  exact ⟨by simp, hM.toExt⟩

/-- what comparing answers -/
def cmv (a b : Int) : Int := if a < b then -1 else if b < a then 1 else 0
theorem Compare_ret (a b : Int) (w : World) :
    Ret Tryd.prog 72 #[i64 a, i64 b] w fun v w' => v = i64 (cmv a b) ∧ Ext w w' := by
  have hM := M.start w
  refine enter Tryd.func72 rfl (by kernel_rfl) Tryd.ntmps72 rfl ?_
  refine C.seq <| C.region <| E.asg rfl rfl <| E.nil <| X.next <| C.seq <| C.region <| E.mv rfl rfl <| ?_
  refine E.call rfl rfl (isNaN_ret _ _) ?_
  rintro _ w1 ⟨rfl, x1⟩
  have hM := hM.ext x1
  try dsimp only [List.nil_append, List.cons_append, List.set_cons_zero, List.set_cons_succ, repl] at hM
  refine E.asg rfl rfl <| E.nil <| X.next <| C.seq <| C.region <| E.mv rfl rfl <| ?_
  refine E.call rfl rfl (isNaN_ret _ _) ?_
  rintro _ w2 ⟨rfl, x2⟩
  have hM := hM.ext x2
  try dsimp only [List.nil_append, List.cons_append, List.set_cons_zero, List.set_cons_succ, repl] at hM
  refine E.asg rfl rfl <| E.nil <| X.next <| C.seq <| C.seq <| C.region <| E.mv rfl rfl <| E.nil <| X.next <| ?_
  refine C.cond rfl (fun hC0 => ?_) (fun hC0 => ?_)
  ·
    cases hC0
  ·
    refine C.skip <| X.next <| C.seq <| C.seq <| C.region <| E.mv rfl rfl <| E.nil <| X.next <| ?_
    refine C.cond rfl (fun hC1 => ?_) (fun hC1 => ?_)
    ·
      cases hC1
    ·
      refine C.skip <| X.next <| C.seq <| C.seq <| C.region <| E.mv rfl rfl <| E.mv rfl rfl <| E.bin rfl rfl rfl rfl <| E.nil <| X.next <| ?_
      refine C.cond' rfl (fun hC2 => ?_) (fun hC2 => ?_)
      ·
        refine C.seq <| C.region <| E.asg rfl rfl <| E.nil <| X.next <| C.ret <| X.retT <| ret1 rfl rfl ?_
        exact ⟨by rw [cmv, if_pos (by omega)], hM.toExt⟩
      ·
        refine C.skip <| X.next <| C.seq <| C.seq <| C.region <| E.mv rfl rfl <| E.mv rfl rfl <| E.bin rfl rfl rfl rfl <| E.nil <| X.next <| ?_
        refine C.cond' rfl (fun hC3 => ?_) (fun hC3 => ?_)
        ·
          refine C.seq <| C.region <| E.asg rfl rfl <| E.nil <| X.next <| C.ret <| X.retT <| ret1 rfl rfl ?_
          exact ⟨by rw [cmv, if_neg (by omega), if_pos (by omega)], hM.toExt⟩
        ·
          refine C.skip <| X.next <| C.seq <| C.region <| E.asg rfl rfl <| E.nil <| X.next <| C.ret <| ret1 rfl rfl ?_
          exact ⟨by rw [cmv, if_neg (by omega), if_neg (by omega)], hM.toExt⟩

theorem cmpw_ret (x y : It) (N P : List It) (w : World) (hp : Pool w N P) (hx : x ∈ N) (hy : y ∈ N) :
    Ret Tryd.prog 71 #[ip x, ip y] w fun v w' => v = i64 (cmv (wi x : Int) (wi y : Int)) ∧ Ext w w' := by
  have hM := M.start w
  refine enter Tryd.func71 rfl (by kernel_rfl) Tryd.ntmps71 rfl ?_
  refine C.seq <| C.region <| E.asg rfl rfl <| E.nil <| X.next <| C.seq <| C.drawn (by kernel_rfl) (by kernel_rfl) <| Q.mv rfl rfl <| Q.nilc rfl rfl <| ?_
  refine Q.fld (o := 0) (sz := 0) rfl Tryd.underlying114 rfl rfl (by kernel_rfl) rfl ?_
  refine Q.load rfl Tryd.underlying3 rfl ((hp.ext hM.toExt).wt hx) rfl ?_
  refine Q.mv rfl rfl <| Q.nilc rfl rfl <| ?_
  refine Q.fld (o := 0) (sz := 0) rfl Tryd.underlying114 rfl rfl (by kernel_rfl) rfl ?_
  refine Q.load rfl Tryd.underlying3 rfl ((hp.ext hM.toExt).wt hy) rfl ?_
  refine Q.call (v := i64 (cmv (wi x : Int) (wi y : Int))) rfl rfl (fun w' hw' => Compare_ret _ _ w') ?_
  refine Q.asg rfl rfl <| Q.nil <| fun w0 hx0 => ?_
  have hM := hM.ext hx0
  refine X.next <| C.ret <| ret1 rfl rfl ?_
  exact ⟨rfl, hM.toExt⟩

/-- the symbols counted -/
def bump (L : List Int) (ss : List Nat) : List Int := ss.foldl (fun L s => L.set s (L.getD s 0 + 1)) L
theorem bump_len (ss : List Nat) : ∀ L : List Int, (bump L ss).length = L.length := by
  induction ss with
  | nil => intro L; rfl
  | cons s ss ih => intro L; show (bump (L.set s (L.getD s 0 + 1)) ss).length = _; rw [ih, List.length_set]
theorem bump_app (L : List Int) (a b : List Nat) : bump L (a ++ b) = bump (bump L a) b := List.foldl_append ..
theorem bump_bd {m : Int} : ∀ (ss : List Nat) (L : List Int), (∀ z ∈ L, 0 ≤ z ∧ z + ss.length ≤ m) → ∀ z ∈ bump L ss, 0 ≤ z ∧ z ≤ m := by
  intro ss
  induction ss with
  | nil => intro L h z hz; have := h z hz; simp at this; exact this
  | cons s ss ih =>
    intro L h z hz
    refine ih (L.set s (L.getD s 0 + 1)) (fun y hy => ?_) z hz
    rcases List.mem_or_eq_of_mem_set hy with h1 | h1
    · have := h y h1; simp only [List.length_cons] at this; omega
    · by_cases hs : s < L.length
      · have h2 := h L[s] (List.getElem_mem hs)
        have e : L.getD s 0 = L[s] := by rw [List.getD_eq_getElem?_getD, List.getElem?_eq_getElem hs]; rfl
        rw [e] at h1; simp only [List.length_cons] at h2; omega
      · rw [List.set_eq_of_length_le (by omega)] at hy
        have := h y hy; simp only [List.length_cons] at this; omega
theorem inc_ret (s b : Nat) (vL : Value) (L : List Int) (w : World) (hs : Sep w [Rg.blk b 29 [vL], Rg.sl i64 3 vL L]) (hl : s < L.length) (hb : 0 ≤ L[s] ∧ L[s] ≤ 4611686018427387904) :
    Ret Tryd.prog 76 #[i64 s, pv b] w fun v w' => M w (fpU [Rg.blk b 29 [vL], Rg.sl i64 3 vL L]) w' [Rg.blk b 29 [vL], Rg.sl i64 3 vL (bump L [s])] := by
  have hM := M.startS hs
  refine enter Tryd.func76 rfl (by kernel_rfl) Tryd.ntmps76 rfl ?_
  refine C.region <| ?_
  refine E.load rfl Tryd.underlying29 rfl (hM.bcell 0 rfl rfl) rfl ?_
  refine E.mv rfl rfl <| ?_
  refine E.get (k := s) rfl rfl (hM.sl 1 rfl) rfl hl Tryd.underlying29 (by kernel_rfl) Tryd.underlying3 rfl rfl rfl ?_
  refine E.add rfl rfl (by omega) rfl ?_
  refine E.idx1 (k := s) rfl rfl (hM.sl 1 rfl) rfl hl Tryd.underlying29 (by kernel_rfl) rfl ?_
  refine E.storeL 1 (L[s] + 1) hM rfl rfl rfl (by kernel_rfl) rfl rfl hl ?_
  intro w0 hM
  try dsimp only [List.nil_append, List.cons_append, List.set_cons_zero, List.set_cons_succ, repl] at hM
  refine E.nil <| end0 rfl ?_
  exact hM.to (by rw [show bump L [s] = L.set s (L[s] + 1) by show L.set s (L.getD s 0 + 1) = _; rw [List.getD_eq_getElem?_getD, List.getElem?_eq_getElem hl]; rfl])

def EachOk (t : Tr) : Prop := ∀ (x b : Nat) (vL : Value) (L : List Int) (P : List It) (w : World), Sep w [Rg.blk b 29 [vL], Rg.sl i64 3 vL L, Rg.pool P P] → (x, t) ∈ P → (∀ s ∈ t.sy, s < L.length) → (∀ z ∈ L, 0 ≤ z ∧ z + t.sy.length ≤ 4611686018427387904) →
  Ret Tryd.prog 75 #[pv x, fnv 76 [pv b]] w fun v w' => M w (fpU [Rg.blk b 29 [vL], Rg.sl i64 3 vL L, Rg.pool P P]) w' [Rg.blk b 29 [vL], Rg.sl i64 3 vL (bump L t.sy), Rg.pool P P]
theorem each_leaf (f s : Nat) (x b : Nat) (vL : Value) (L : List Int) (P : List It) (w : World) (hs : Sep w [Rg.blk b 29 [vL], Rg.sl i64 3 vL L, Rg.pool P P]) (hx : (x, Tr.leaf f s) ∈ P) (hl : ∀ y ∈ (Tr.leaf f s).sy, y < L.length) (hb : ∀ z ∈ L, 0 ≤ z ∧ z + ((Tr.leaf f s).sy.length : Int) ≤ 4611686018427387904) :
    Ret Tryd.prog 75 #[pv x, fnv 76 [pv b]] w fun v w' => M w (fpU [Rg.blk b 29 [vL], Rg.sl i64 3 vL L, Rg.pool P P]) w' [Rg.blk b 29 [vL], Rg.sl i64 3 vL (bump L (Tr.leaf f s).sy), Rg.pool P P] := by
  have hM := M.startS hs
  refine enter Tryd.func75 rfl (by kernel_rfl) Tryd.ntmps75 rfl ?_
  refine C.seq <| C.seq <| C.region <| E.mv rfl rfl <| E.nilc rfl rfl <| ?_
  refine E.fld (o := 2) (sz := 0) rfl Tryd.underlying114 rfl rfl (by kernel_rfl) rfl ?_
  refine E.load rfl Tryd.underlying112 rfl ((hM.pool 2 rfl).leaf hx).2 rfl ?_
  refine E.eqnil rfl rfl Tryd.underlying112 rfl <| E.nil <| X.next <| ?_
  refine C.cond rfl (fun hC0 => ?_) (fun hC0 => ?_)
  ·
    refine C.seq <| C.region <| E.mv rfl rfl <| E.mv rfl rfl <| E.nilc rfl rfl <| ?_
    refine E.fld (o := 1) (sz := 0) rfl Tryd.underlying114 rfl rfl (by kernel_rfl) rfl ?_
    refine E.load rfl Tryd.underlying3 rfl ((hM.pool 2 rfl).leaf hx).1 rfl ?_
    refine E.callv rfl rfl rfl (inc_ret s b vL L _ (hM.pick [0, 1] (by decide)).sep (hl s (by simp [Tr.sy])) (by have := hb _ (List.getElem_mem (hl s (by simp [Tr.sy]))); simp [Tr.sy] at this; omega)) ?_
    rintro _ w1 m1
    have hM := hM.calls [0, 1] (by decide) rfl (by simp) m1
    try dsimp only [List.nil_append, List.cons_append, List.set_cons_zero, List.set_cons_succ, repl] at hM
    refine E.nil <| X.next <| C.ret <| X.retT <| ret0 rfl ?_
    exact hM
  ·
    cases hC0

theorem each_node (c d : Tr) (hc : EachOk c) (hd : EachOk d) (x b : Nat) (vL : Value) (L : List Int) (P : List It) (w : World) (hs : Sep w [Rg.blk b 29 [vL], Rg.sl i64 3 vL L, Rg.pool P P]) (hx : (x, Tr.node c d) ∈ P) (hl : ∀ y ∈ (Tr.node c d).sy, y < L.length) (hb : ∀ z ∈ L, 0 ≤ z ∧ z + ((Tr.node c d).sy.length : Int) ≤ 4611686018427387904) :
    Ret Tryd.prog 75 #[pv x, fnv 76 [pv b]] w fun v w' => M w (fpU [Rg.blk b 29 [vL], Rg.sl i64 3 vL L, Rg.pool P P]) w' [Rg.blk b 29 [vL], Rg.sl i64 3 vL (bump L (Tr.node c d).sy), Rg.pool P P] := by
  have hM := M.startS hs
  refine enter Tryd.func75 rfl (by kernel_rfl) Tryd.ntmps75 rfl ?_
  refine C.seq <| C.seq <| C.region <| E.mv rfl rfl <| E.nilc rfl rfl <| ?_
  refine E.fld (o := 2) (sz := 0) rfl Tryd.underlying114 rfl rfl (by kernel_rfl) rfl ?_
  obtain ⟨p1, q1, hp1, hq1, hl1, hr1⟩ := (hM.pool 2 rfl).node hx
  have hsl : (Tr.node c d).sy.length = c.sy.length + d.sy.length := by simp [Tr.sy]
  refine E.load rfl Tryd.underlying112 rfl hl1 rfl ?_
  refine E.eqnil rfl rfl Tryd.underlying112 rfl <| E.nil <| X.next <| ?_
  refine C.cond rfl (fun hC0 => ?_) (fun hC0 => ?_)
  ·
    cases hC0
  ·
    refine C.skip <| X.next <| C.seq <| C.region <| E.mv rfl rfl <| E.nilc rfl rfl <| ?_
    refine E.fld (o := 2) (sz := 0) rfl Tryd.underlying114 rfl rfl (by kernel_rfl) rfl ?_
    refine E.load rfl Tryd.underlying112 rfl hl1 rfl ?_
    refine E.mv rfl rfl <| ?_
    refine E.call rfl rfl (hc p1 b vL L P _ (hM.pick [0, 1, 2] (by decide)).sep hp1 (fun s h => hl s (by simp [Tr.sy, h])) (fun z hz => by have := hb z hz; omega)) ?_
    rintro _ w1 m1
    have hM := hM.calls [0, 1, 2] (by decide) rfl (by simp) m1
    obtain ⟨p2, q2, hp2, hq2, hl2, hr2⟩ := (hM.pool 2 rfl).node hx
    try dsimp only [List.nil_append, List.cons_append, List.set_cons_zero, List.set_cons_succ, repl] at hM
    refine E.nil <| X.next <| C.region <| E.mv rfl rfl <| E.nilc rfl rfl <| ?_
    refine E.fld (o := 3) (sz := 0) rfl Tryd.underlying114 rfl rfl (by kernel_rfl) rfl ?_
    refine E.load rfl Tryd.underlying112 rfl hr2 rfl ?_
    refine E.mv rfl rfl <| ?_
    refine E.call rfl rfl (hd q2 b vL (bump L c.sy) P _ (hM.pick [0, 1, 2] (by decide)).sep hq2 (fun s h => by rw [bump_len]; exact hl s (by simp [Tr.sy, h])) (fun z hz => by have := bump_bd (m := 4611686018427387904 - d.sy.length) c.sy L (fun y hy => by have := hb y hy; omega) z hz; omega)) ?_
    rintro _ w2 m2
    have hM := hM.calls [0, 1, 2] (by decide) rfl (by simp) m2
    try dsimp only [List.nil_append, List.cons_append, List.set_cons_zero, List.set_cons_succ, repl] at hM
    refine E.nil <| end0 rfl ?_
    exact by rw [Tr.sy, bump_app]; exact hM

theorem each_ok : ∀ t, EachOk t
  | .leaf f s => fun x b vL L P w hs hx hl hb => each_leaf f s x b vL L P w hs hx hl hb
  | .node c d => fun x b vL L P w hs hx hl hb => each_node c d (each_ok c) (each_ok d) x b vL L P w hs hx hl hb
end Go.Proofs.YtcmgbjmcklfkcaaDoor
