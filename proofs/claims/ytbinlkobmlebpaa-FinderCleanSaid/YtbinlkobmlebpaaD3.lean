/- Texts of the claim, laid together: SymT, SymU, SymV, SymW. -/
import Derived.DeepKeys
import Derived.Laws.StructEq
import Derived.Defers
import Derived.Laws.IdiomStrings
import Derived.Conc.MuLone
import Derived.Test.YtbinlkobmlebpaaD2
set_option linter.unusedSimpArgs false
set_option linter.unusedVariables false
namespace Go.Proofs.Ytbinlkobmlebpaa.Sym
open Go.RowKit
theorem look_app (a b : Env) (j : Nat) : look (a ++ b) j = (look a j).or (look b j) := by
 induction a with
 | nil => rfl
 | cons e a ih =>
  show look ((e.1, e.2) :: (a ++ b)) j = (look ((e.1, e.2) :: a) j).or _
  rw [look_cons, look_cons, ih]
  by_cases h : e.1 = j
  · simp [h]
  · simp [h]
theorem Sub.app {a b env : Env} (h : Sub a env) (k : Sub b env) : Sub (a ++ b) env := fun i v hv => by
 rw [look_app] at hv
 cases ha : look a i with
 | some u => rw [ha] at hv; exact h i v (by rw [ha]; exact hv)
 | none => rw [ha] at hv; exact k i v hv
def now : Env → Env → Env
 | [], _ => []
 | (i, _) :: r, env => match look env i with
  | some v => (i, v) :: now r env
  | none => now r env
theorem Sub.now : ∀ (E env : Env), Sub (now E env) env
 | [], env => Sub.nil env
 | (i, u) :: r, env => by
  unfold Sym.now
  cases h : look env i with
  | none => exact Sub.now r env
  | some v => exact Sub.cons h (Sub.now r env)
theorem Sub.same {E env : Env} (h : Sym.now E env = E) : Sub E env := by
 have := Sub.now E env
 rw [h] at this; exact this
section
variable {P : Program} {Q : Exit → Act → World → Prop} {s : St} {env : Env} {w : World}
def Join0 (s : St) (mods : Env) (φ : World → Prop) (E0 : Env) (a : Act) (w : World) : Prop := Sat s a (mods ++ E0) ∧ φ w
theorem C.cut0 (E0 : Env) (_hE : now E0 env = E0) (mods : Env) (φ : World → Prop) {x y : Code} (hx : wpC P x (Exit.then (Join0 s mods φ E0) Q) s env w) (hy : ∀ w, φ w → wpC P y Q s (mods ++ E0) w) : wpC P (.seq x y) Q s env w := fun a ha =>
 wp_seq (wp_mono (hx a ha) fun e a' w' h => by
  cases e with
  | normal => obtain ⟨h1, h2⟩ := h; exact hy w' h2 a' h1
  | _ => exact h)
theorem X.join0 {mods : Env} {φ : World → Prop} {E0 : Env}  (r : Sub (mods) env) (hs : now E0 env = E0) (h : φ w) : wpX .normal (Exit.then (Join0 s mods φ E0) Q) s env w := fun _ ha => ⟨ha.sub (Sub.app r (Sub.same hs)), h⟩
def Join1 {A0 : Type} (s : St) (mods : A0 → Env) (φ : A0 → World → Prop) (E0 : Env) (a : Act) (w : World) : Prop := ∃ x0, Sat s a (mods x0 ++ E0) ∧ φ x0 w
theorem C.cut1 {A0 : Type} (E0 : Env) (_hE : now E0 env = E0) (mods : A0 → Env) (φ : A0 → World → Prop) {x y : Code} (hx : wpC P x (Exit.then (Join1 s mods φ E0) Q) s env w) (hy : ∀ x0 w, φ x0 w → wpC P y Q s (mods x0 ++ E0) w) : wpC P (.seq x y) Q s env w := fun a ha =>
 wp_seq (wp_mono (hx a ha) fun e a' w' h => by
  cases e with
  | normal => obtain ⟨x0, h1, h2⟩ := h; exact hy x0 w' h2 a' h1
  | _ => exact h)
theorem X.join1 {A0 : Type} {mods : A0 → Env} {φ : A0 → World → Prop} {E0 : Env} (x0 : A0) (r : Sub (mods x0) env) (hs : now E0 env = E0) (h : φ x0 w) : wpX .normal (Exit.then (Join1 s mods φ E0) Q) s env w := fun _ ha => ⟨x0, ha.sub (Sub.app r (Sub.same hs)), h⟩
def Again1 {A0 : Type} (s : St) (mods : A0 → Env) (φ : A0 → World → Prop) (μ : A0 → Nat) (E0 : Env) (m : Nat) (a : Act) (w : World) : Prop := ∃ x0, Sat s a (mods x0 ++ E0) ∧ φ x0 w ∧ μ x0 < m
theorem C.loop1 {A0 : Type} (E0 : Env) (hE : now E0 env = E0) (mods : A0 → Env) (φ : A0 → World → Prop) (μ : A0 → Nat) (x0 : A0) {c : Code} (h0 : Sub (mods x0) env) (hφ : φ x0 w)
  (round : ∀ x0 w, φ x0 w → wpC P c (Exit.then (Again1 s mods φ μ E0 (μ x0)) Q) s (mods x0 ++ E0) w) : wpC P (.loop c) Q s env w :=
 C.loop (G := A0) (fun g => mods g ++ E0) (fun g w => φ g w) (fun g => μ g) x0 (Sub.app h0 (Sub.same hE)) hφ fun g w hg a ha => wp_mono (round g w hg a ha) fun e a' w' h => by
  cases e with
  | normal => obtain ⟨x0, h1, h2, h3⟩ := h; exact ⟨x0, h1, h2, h3⟩
  | _ => exact h
theorem X.again1 {A0 : Type} {mods : A0 → Env} {φ : A0 → World → Prop} {μ : A0 → Nat} {E0 : Env} {m : Nat} (x0 : A0) (r : Sub (mods x0) env) (hs : now E0 env = E0) (h : φ x0 w) (hm : μ x0 < m) : wpX .normal (Exit.then (Again1 s mods φ μ E0 m) Q) s env w := fun _ ha => ⟨x0, ha.sub (Sub.app r (Sub.same hs)), h, hm⟩
def Join2 {A0 A1 : Type} (s : St) (mods : A0 → A1 → Env) (φ : A0 → A1 → World → Prop) (E0 : Env) (a : Act) (w : World) : Prop := ∃ x0 x1, Sat s a (mods x0 x1 ++ E0) ∧ φ x0 x1 w
theorem C.cut2 {A0 A1 : Type} (E0 : Env) (_hE : now E0 env = E0) (mods : A0 → A1 → Env) (φ : A0 → A1 → World → Prop) {x y : Code} (hx : wpC P x (Exit.then (Join2 s mods φ E0) Q) s env w) (hy : ∀ x0 x1 w, φ x0 x1 w → wpC P y Q s (mods x0 x1 ++ E0) w) : wpC P (.seq x y) Q s env w := fun a ha =>
 wp_seq (wp_mono (hx a ha) fun e a' w' h => by
  cases e with
  | normal => obtain ⟨x0, x1, h1, h2⟩ := h; exact hy x0 x1 w' h2 a' h1
  | _ => exact h)
theorem X.join2 {A0 A1 : Type} {mods : A0 → A1 → Env} {φ : A0 → A1 → World → Prop} {E0 : Env} (x0 : A0) (x1 : A1) (r : Sub (mods x0 x1) env) (hs : now E0 env = E0) (h : φ x0 x1 w) : wpX .normal (Exit.then (Join2 s mods φ E0) Q) s env w := fun _ ha => ⟨x0, x1, ha.sub (Sub.app r (Sub.same hs)), h⟩
def Again2 {A0 A1 : Type} (s : St) (mods : A0 → A1 → Env) (φ : A0 → A1 → World → Prop) (μ : A0 → A1 → Nat) (E0 : Env) (m : Nat) (a : Act) (w : World) : Prop := ∃ x0 x1, Sat s a (mods x0 x1 ++ E0) ∧ φ x0 x1 w ∧ μ x0 x1 < m
theorem C.loop2 {A0 A1 : Type} (E0 : Env) (hE : now E0 env = E0) (mods : A0 → A1 → Env) (φ : A0 → A1 → World → Prop) (μ : A0 → A1 → Nat) (x0 : A0) (x1 : A1) {c : Code} (h0 : Sub (mods x0 x1) env) (hφ : φ x0 x1 w)
  (round : ∀ x0 x1 w, φ x0 x1 w → wpC P c (Exit.then (Again2 s mods φ μ E0 (μ x0 x1)) Q) s (mods x0 x1 ++ E0) w) : wpC P (.loop c) Q s env w :=
 C.loop (G := A0 × A1) (fun g => mods g.1 g.2 ++ E0) (fun g w => φ g.1 g.2 w) (fun g => μ g.1 g.2) (x0, x1) (Sub.app h0 (Sub.same hE)) hφ fun g w hg a ha => wp_mono (round g.1 g.2 w hg a ha) fun e a' w' h => by
  cases e with
  | normal => obtain ⟨x0, x1, h1, h2, h3⟩ := h; exact ⟨(x0, x1), h1, h2, h3⟩
  | _ => exact h
theorem X.again2 {A0 A1 : Type} {mods : A0 → A1 → Env} {φ : A0 → A1 → World → Prop} {μ : A0 → A1 → Nat} {E0 : Env} {m : Nat} (x0 : A0) (x1 : A1) (r : Sub (mods x0 x1) env) (hs : now E0 env = E0) (h : φ x0 x1 w) (hm : μ x0 x1 < m) : wpX .normal (Exit.then (Again2 s mods φ μ E0 m) Q) s env w := fun _ ha => ⟨x0, x1, ha.sub (Sub.app r (Sub.same hs)), h, hm⟩
def Again3 {A0 A1 A2 : Type} (s : St) (mods : A0 → A1 → A2 → Env) (φ : A0 → A1 → A2 → World → Prop) (μ : A0 → A1 → A2 → Nat) (E0 : Env) (m : Nat) (a : Act) (w : World) : Prop := ∃ x0 x1 x2, Sat s a (mods x0 x1 x2 ++ E0) ∧ φ x0 x1 x2 w ∧ μ x0 x1 x2 < m
theorem C.loop3 {A0 A1 A2 : Type} (E0 : Env) (hE : now E0 env = E0) (mods : A0 → A1 → A2 → Env) (φ : A0 → A1 → A2 → World → Prop) (μ : A0 → A1 → A2 → Nat) (x0 : A0) (x1 : A1) (x2 : A2) {c : Code} (h0 : Sub (mods x0 x1 x2) env) (hφ : φ x0 x1 x2 w)
  (round : ∀ x0 x1 x2 w, φ x0 x1 x2 w → wpC P c (Exit.then (Again3 s mods φ μ E0 (μ x0 x1 x2)) Q) s (mods x0 x1 x2 ++ E0) w) : wpC P (.loop c) Q s env w :=
 C.loop (G := A0 × A1 × A2) (fun g => mods g.1 g.2.1 g.2.2 ++ E0) (fun g w => φ g.1 g.2.1 g.2.2 w) (fun g => μ g.1 g.2.1 g.2.2) (x0, x1, x2) (Sub.app h0 (Sub.same hE)) hφ fun g w hg a ha => wp_mono (round g.1 g.2.1 g.2.2 w hg a ha) fun e a' w' h => by
  cases e with
  | normal => obtain ⟨x0, x1, x2, h1, h2, h3⟩ := h; exact ⟨(x0, x1, x2), h1, h2, h3⟩
  | _ => exact h
theorem X.again3 {A0 A1 A2 : Type} {mods : A0 → A1 → A2 → Env} {φ : A0 → A1 → A2 → World → Prop} {μ : A0 → A1 → A2 → Nat} {E0 : Env} {m : Nat} (x0 : A0) (x1 : A1) (x2 : A2) (r : Sub (mods x0 x1 x2) env) (hs : now E0 env = E0) (h : φ x0 x1 x2 w) (hm : μ x0 x1 x2 < m) : wpX .normal (Exit.then (Again3 s mods φ μ E0 m) Q) s env w := fun _ ha => ⟨x0, x1, x2, ha.sub (Sub.app r (Sub.same hs)), h, hm⟩
def Again4 {A0 A1 A2 A3 : Type} (s : St) (mods : A0 → A1 → A2 → A3 → Env) (φ : A0 → A1 → A2 → A3 → World → Prop) (μ : A0 → A1 → A2 → A3 → Nat) (E0 : Env) (m : Nat) (a : Act) (w : World) : Prop := ∃ x0 x1 x2 x3, Sat s a (mods x0 x1 x2 x3 ++ E0) ∧ φ x0 x1 x2 x3 w ∧ μ x0 x1 x2 x3 < m
theorem C.loop4 {A0 A1 A2 A3 : Type} (E0 : Env) (hE : now E0 env = E0) (mods : A0 → A1 → A2 → A3 → Env) (φ : A0 → A1 → A2 → A3 → World → Prop) (μ : A0 → A1 → A2 → A3 → Nat) (x0 : A0) (x1 : A1) (x2 : A2) (x3 : A3) {c : Code} (h0 : Sub (mods x0 x1 x2 x3) env) (hφ : φ x0 x1 x2 x3 w)
  (round : ∀ x0 x1 x2 x3 w, φ x0 x1 x2 x3 w → wpC P c (Exit.then (Again4 s mods φ μ E0 (μ x0 x1 x2 x3)) Q) s (mods x0 x1 x2 x3 ++ E0) w) : wpC P (.loop c) Q s env w :=
 C.loop (G := A0 × A1 × A2 × A3) (fun g => mods g.1 g.2.1 g.2.2.1 g.2.2.2 ++ E0) (fun g w => φ g.1 g.2.1 g.2.2.1 g.2.2.2 w) (fun g => μ g.1 g.2.1 g.2.2.1 g.2.2.2) (x0, x1, x2, x3) (Sub.app h0 (Sub.same hE)) hφ fun g w hg a ha => wp_mono (round g.1 g.2.1 g.2.2.1 g.2.2.2 w hg a ha) fun e a' w' h => by
  cases e with
  | normal => obtain ⟨x0, x1, x2, x3, h1, h2, h3⟩ := h; exact ⟨(x0, x1, x2, x3), h1, h2, h3⟩
  | _ => exact h
theorem X.again4 {A0 A1 A2 A3 : Type} {mods : A0 → A1 → A2 → A3 → Env} {φ : A0 → A1 → A2 → A3 → World → Prop} {μ : A0 → A1 → A2 → A3 → Nat} {E0 : Env} {m : Nat} (x0 : A0) (x1 : A1) (x2 : A2) (x3 : A3) (r : Sub (mods x0 x1 x2 x3) env) (hs : now E0 env = E0) (h : φ x0 x1 x2 x3 w) (hm : μ x0 x1 x2 x3 < m) : wpX .normal (Exit.then (Again4 s mods φ μ E0 m) Q) s env w := fun _ ha => ⟨x0, x1, x2, x3, ha.sub (Sub.app r (Sub.same hs)), h, hm⟩
theorem C.chainE (E0 : Env) (hE : now E0 env = E0) (mods : Env) {x y : Code} (hx : wpC P x (Exit.then (Join0 s mods (fun w' => w' = w) E0) Q) s env w) (hy : wpC P y Q s (mods ++ E0) w) : wpC P (.seq x y) Q s env w := C.cut0 E0 hE mods _ hx fun _ h => h ▸ hy
theorem C.chainQ (E0 : Env) (hE : now E0 env = E0) (mods : Env) {x y : Code} (hx : wpC P x (Exit.then (Join0 s mods (fun w' => Ext w w') E0) Q) s env w) (hy : ∀ w', Ext w w' → wpC P y Q s (mods ++ E0) w') : wpC P (.seq x y) Q s env w := C.cut0 E0 hE mods _ hx hy
end
theorem M.pair {w w' : World} {r q : Rg} (x : Ext w w') (hr : r.ok w') (hf : ∀ k, r.fp k → w.heap.size ≤ k) (hq : q.ok w') (hg : ∀ k, q.fp k → w.heap.size ≤ k) (ha : ∀ k, r.fp k → ¬ q.fp k) : M w Nn w' [r, q] := by
  have two : ∀ (i : Nat) p, [r, q][i]? = some p → (i = 0 ∧ p = r) ∨ (i = 1 ∧ p = q) := fun i p hi => by
    match i with
    | 0 => exact .inl ⟨rfl, by simpa using hi.symm⟩
    | 1 => exact .inr ⟨rfl, by simpa using hi.symm⟩
    | i + 2 => simp at hi
  refine ⟨⟨fun i p hi => ?_, fun i j p p' hi hj hne k hk hk' => ?_⟩, fun i p hi k hk => ?_, FrS.ofExt x⟩
  · rcases two i p hi with ⟨_, rfl⟩ | ⟨_, rfl⟩
    · exact hr
    · exact hq
  · rcases two i p hi with ⟨ei, ep⟩ | ⟨ei, ep⟩ <;> rcases two j p' hj with ⟨ej, ep'⟩ | ⟨ej, ep'⟩
    · omega
    · exact ha k (ep ▸ hk) (ep' ▸ hk')
    · exact ha k (ep' ▸ hk') (ep ▸ hk)
    · omega
  · rcases two i p hi with ⟨_, rfl⟩ | ⟨_, rfl⟩
    · exact .inr (hf k hk)
    · exact .inr (hg k hk)
theorem Rd.one {w : World} {sz n : Nat} {v : Value} {cs : List Value} (h : Rd w sz v n cs) : v.oneCell' = true := by obtain ⟨a, cap, rfl⟩ := h.shape; rfl
theorem RdL.one {α : Type} {enc : α → Value} {w : World} {v : Value} {l : List α} (h : RdL enc w v l) : v.oneCell' = true := Rd.one h
theorem RdF.one {α : Type} {enc : α → List Value} {sz : Nat} {w : World} {v : Value} {l : List α} (h : RdF enc sz w v l) : v.oneCell' = true := Rd.one h.2
theorem RdL.cellA {α : Type} {enc : α → Value} {w : World} {v : Value} {l : List α} (h : RdL enc w v l) {ad : Addr} {j : Nat} (had : ad = el v j) (hj : j < l.length) : w.cell? ad = some (enc l[j]) := had ▸ h.cell hj
theorem ones_nil : ∀ u ∈ ([] : List Value), u.oneCell' = true := by simp
theorem ones {a : Value} {l : List Value} (h : a.oneCell' = true) (t : ∀ u ∈ l, u.oneCell' = true) : ∀ u ∈ a :: l, u.oneCell' = true := fun u hu => by
 rcases List.mem_cons.1 hu with rfl | hu
 · exact h
 · exact t u hu
def tab {α : Type} (n : Nat) (f : Nat → α) : List α := (List.range n).map f
theorem tab_len {α : Type} (n : Nat) (f : Nat → α) : (tab n f).length = n := by simp [tab]
theorem tab_get {α : Type} {n : Nat} {f : Nat → α} {i : Nat} (h : i < n) : (tab n f)[i]? = some (f i) := by simp [tab, h]
theorem tab_eq {α : Type} {l : List α} {n : Nat} {f : Nat → α} (hl : l.length = n) (h : ∀ i, i < n → l[i]? = some (f i)) : l = tab n f := by
 apply List.ext_getElem?
 intro i
 by_cases hi : i < n
 · rw [h i hi, tab_get hi]
 · rw [List.getElem?_eq_none (by omega), List.getElem?_eq_none (by rw [tab_len]; omega)]
def Part (sz : Nat) (v v' : Value) (lo hi : Nat) : Prop := ∃ a n cap, v = .slice a n cap ∧ lo ≤ hi ∧ hi ≤ n ∧ v' = .slice (if cap = lo then a else a.map (·.add (lo * sz))) (hi - lo) (cap - lo)
theorem Rd.ofPart {w : World} {sz n lo hi : Nat} {v v' : Value} {cs : List Value} (h : Rd w sz v n cs) (p : Part sz v v' lo hi) : Rd w sz v' (hi - lo) ((cs.drop (lo * sz)).take ((hi - lo) * sz)) := by
 obtain ⟨a, m, cap, rfl, h1, h2, rfl⟩ := p
 obtain ⟨a', cap', h3, h4⟩ := h
 obtain ⟨rfl, rfl, rfl⟩ : a = a' ∧ m = n ∧ cap = cap' := by simpa using h3
 exact (Rd.part ⟨a, cap, rfl, h4⟩ rfl h1 h2).1
theorem RdL.part {α : Type} {enc : α → Value} {w : World} {v v' : Value} {l : List α} {lo hi : Nat} (h : RdL enc w v l) (p : Part 1 v v' lo hi) : RdL enc w v' (cutL lo hi l) := by
 have p' := p
 obtain ⟨a, m, cap, rfl, h1, h2, _⟩ := p'
 obtain ⟨a', cap', h3⟩ := Rd.shape h
 have hm : m = l.length := by simp at h3; exact h3.2.1
 subst hm
 exact RdL.ofPart h1 h2 (Rd.ofPart h p)
theorem Part.bs {sz lo hi : Nat} {v v' : Value} (p : Part sz v v' lo hi) : (bs v').1 = (bs v).1 := by
  obtain ⟨a, m, cap, rfl, h1, h2, rfl⟩ := p
  split
  · cases a <;> rfl
  · cases a with
    | none => rfl
    | some ad => simp only [Option.map_some, Sym.bs, Addr.add]; split <;> rfl
section
variable {α : Type} {enc : α → List Value} {sz : Nat} {w : World} {v : Value} {l : List α}
theorem RdF.at (h : RdF enc sz w v l) {k o : Nat} (hk : k < l.length) {u : Value} (hu : (enc l[k])[o]? = some u) : w.cell? ⟨(bs v).1, (bs v).2 + k * sz + o, none⟩ = some u := by
 rw [Nat.add_assoc]; exact h.cell hk o hu
theorem RdF.atA (h : RdF enc sz w v l) {ad : Addr} {k o : Nat} (had : ad = ⟨(bs v).1, (bs v).2 + k * sz + o, none⟩) (hk : k < l.length) {u : Value} (hu : (enc l[k])[o]? = some u) : w.cell? ad = some u := had ▸ h.at hk hu
theorem RdF.all (h : RdF enc sz w v l) {k : Nat} (hk : k < l.length) : At w (bs v).1 ((bs v).2 + k * sz) (enc l[k]) := fun j u hu => h.at hk hu
end
section
variable {P : Program} {ops : Array Oper} {Q : Exit → Act → World → Prop} {Qn Lq : Act → Prop} {s : St} {env : Env} {w : World} {rest : List Oper}
variable {d : Nat} {ty : TypeId} {pos : String} {aft : Array Edge}
theorem E.idx1 {α : Type} {enc : α → Value} {l : List α} {t e : TypeId} {x ix : Operand} {kd : IntKind} {i : Int} {v : Value} (k : Nat) (hx : ev env x = some v) (hi : ev env ix = some (.int kd i)) (hR : RdL enc w v l) (hk : i = (k : Int)) (h1 : k < l.length)
  (ht : P.underlying t = some (.slice e)) (hs : (P.info? e).map (·.size) = some 1) (hd : Nat.blt d s.n = true) (h : wpE P ops Q s rest ((d, .pointer (some (el v k))) :: env) w) : wpE P ops Q s (⟨some d, .indexAddr t x ix, ty, pos, aft, none⟩ :: rest) env w := by
 subst hk
 have e0 : (k : Int).toNat * 1 = k := by omega
 refine E.idx hx hi hR ht hs (by omega) (by omega) (by decide) hd ?_
 rw [e0]; exact h
theorem E.idxF {α : Type} {enc : α → List Value} {sz : Nat} {l : List α} {t e : TypeId} {x ix : Operand} {kd : IntKind} {i : Int} {v : Value} (k : Nat) (hx : ev env x = some v) (hi : ev env ix = some (.int kd i)) (hR : RdF enc sz w v l) (hk : i = (k : Int)) (h1 : k < l.length) (hsz : 0 < sz)
  (ht : P.underlying t = some (.slice e)) (hs : (P.info? e).map (·.size) = some sz) (hd : Nat.blt d s.n = true) (h : wpE P ops Q s rest ((d, .pointer (some (el v (k * sz)))) :: env) w) : wpE P ops Q s (⟨some d, .indexAddr t x ix, ty, pos, aft, none⟩ :: rest) env w := by
 subst hk
 have e0 : (k : Int).toNat = k := by omega
 refine E.idx hx hi hR.rd ht hs (by omega) (by omega) hsz hd ?_
 rw [e0]; exact h
theorem Q.idx1 {α : Type} {enc : α → Value} {l : List α} {t e : TypeId} {x ix : Operand} {kd : IntKind} {i : Int} {v : Value} (k : Nat) (hx : ev env x = some v) (hi : ev env ix = some (.int kd i)) (hR : RdL enc w v l) (hk : i = (k : Int)) (h1 : k < l.length)
  (ht : P.underlying t = some (.slice e)) (hs : (P.info? e).map (·.size) = some 1) (hd : Nat.blt d s.n = true) (h : wpQ P ops w Qn s rest ((d, .pointer (some (el v k))) :: env)) : wpQ P ops w Qn s (⟨some d, .indexAddr t x ix, ty, pos, aft, none⟩ :: rest) env := by
 subst hk
 have e0 : (k : Int).toNat * 1 = k := by omega
 refine Q.idx hx hi hR ht hs (by omega) (by omega) (by decide) hd ?_
 rw [e0]; exact h
theorem Q.idxF {α : Type} {enc : α → List Value} {sz : Nat} {l : List α} {t e : TypeId} {x ix : Operand} {kd : IntKind} {i : Int} {v : Value} (k : Nat) (hx : ev env x = some v) (hi : ev env ix = some (.int kd i)) (hR : RdF enc sz w v l) (hk : i = (k : Int)) (h1 : k < l.length) (hsz : 0 < sz)
  (ht : P.underlying t = some (.slice e)) (hs : (P.info? e).map (·.size) = some sz) (hd : Nat.blt d s.n = true) (h : wpQ P ops w Qn s rest ((d, .pointer (some (el v (k * sz)))) :: env)) : wpQ P ops w Qn s (⟨some d, .indexAddr t x ix, ty, pos, aft, none⟩ :: rest) env := by
 subst hk
 have e0 : (k : Int).toNat = k := by omega
 refine Q.idx hx hi hR.rd ht hs (by omega) (by omega) hsz hd ?_
 rw [e0]; exact h
theorem S.idxF {α : Type} {enc : α → List Value} {sz : Nat} {l : List α} {t e : TypeId} {x ix : Operand} {kd : IntKind} {i : Int} {v : Value} (k : Nat) (hx : ev env x = some v) (hi : ev env ix = some (.int kd i)) (hR : RdF enc sz w v l) (hk : i = (k : Int)) (h1 : k < l.length) (hsz : 0 < sz)
  (ht : P.underlying t = some (.slice e)) (hs : (P.info? e).map (·.size) = some sz) (hd : Nat.blt d s.n = true) (h : wpS P ops Lq s rest ((d, .pointer (some (el v (k * sz)))) :: env) w) : wpS P ops Lq s (⟨some d, .indexAddr t x ix, ty, pos, aft, none⟩ :: rest) env w := by
 subst hk
 have e0 : (k : Int).toNat = k := by omega
 refine S.idx hx hi hR.rd ht hs (by omega) (by omega) hsz hd ?_
 rw [e0]; exact h
end
section
variable {P : Program} {ops : Array Oper} {Q : Exit → Act → World → Prop} {Qn : Act → Prop} {s : St} {env : Env} {w0 w : World} {S : Nat → Prop} {rs : List Rg} {rest : List Oper}
variable {d : Nat} {ty : TypeId} {pos : String} {aft : Array Edge}
theorem C.heldE {id : Nat} {l : List Oper} (hm : P.follows .mixedOrders = true) (h : ∀ w', Ext w w' → w'.heap = w.heap → wpH P l.toArray Q (Ext w) s l.length (Array.replicate l.length false) env w') : wpC P (.region id l.toArray true) Q s env w := C.held (Ext w) hm h
theorem C.heldM {id : Nat} {l : List Oper} (hM : M w0 S w rs) (is : List Nat) (hn : is.Nodup) (hm : P.follows .mixedOrders = true) (h : ∀ w', M w0 S w' rs → M w0 S w' (is.filterMap (rs[·]?)) → wpH P l.toArray Q (fun w' => M w0 S w' (is.filterMap (rs[·]?))) s l.length (Array.replicate l.length false) env w') : wpC P (.region id l.toArray true) Q s env w :=
 C.held _ hm fun w' hx _ => h w' (hM.ext hx) ((hM.ext hx).pick is hn)
theorem H.takeV {S : World → Prop} {fuel : Nat} {listed : Array Bool} {o : Oper} {v : Value} (i : Nat) (hi : ops[i]? = some o) (hdst : o.dst = some d) (hs : Region.noSelect ops = true) (hf : Region.free .any ops listed i = true) (hr : (Region.ready .any ops listed).contains i = true)
  (hS : S w) (_hv : Yld P ops s env w o v) (hy : ∀ w', S w' → Yld P ops s env w' o v) (hd : Nat.blt d s.n = true) (h : wpH P ops Q S s fuel (listed.setIfInBounds i true) ((d, v) :: env) w) : wpH P ops Q S s (fuel + 1) listed env w := H.take i hi hdst hs hf hr hS hy hd h
theorem H.split {S : World → Prop} {fuel : Nat} {listed : Array Bool} {b : Bool} (t : Nat) (hb : look env t = some (.bool b)) (ht : b = true → wpH P ops Q S s fuel listed ((t, .bool true) :: env) w) (hf : b = false → wpH P ops Q S s fuel listed ((t, .bool false) :: env) w) : wpH P ops Q S s fuel listed env w := by
 cases b with
 | true => exact fun a ha => ht rfl a (ha.sub (Sub.cons hb (Sub.refl env)))
 | false => exact fun a ha => hf rfl a (ha.sub (Sub.cons hb (Sub.refl env)))
theorem S.split {Lq : Act → Prop} {l : List Oper} {b : Bool} (t : Nat) (hb : look env t = some (.bool b)) (ht : b = true → wpS P ops Lq s l ((t, .bool true) :: env) w) (hf : b = false → wpS P ops Lq s l ((t, .bool false) :: env) w) : wpS P ops Lq s l env w := by
 cases b with
 | true => exact fun a ha => ht rfl a (ha.sub (Sub.cons hb (Sub.refl env)))
 | false => exact fun a ha => hf rfl a (ha.sub (Sub.cons hb (Sub.refl env)))
theorem H.two {S : World → Prop} {fuel : Nat} {listed : Array Bool} {oi oj : Oper} (i j : Nat) (hi : ops[i]? = some oi) (hj : ops[j]? = some oj) (hr : Region.ready .any ops listed = [i, j]) (h1 : wpE P ops (HQ P ops Q S fuel (listed.setIfInBounds i true)) s [oi] env w) (h2 : wpE P ops (HQ P ops Q S fuel (listed.setIfInBounds j true)) s [oj] env w) : wpH P ops Q S s (fuel + 1) listed env w := fun a ha => by
  refine wpAnyH_all hr (by simp) fun k hk => ?_
  have hk' : k = i ∨ k = j := by simpa using hk
  rcases hk' with rfl | rfl
  ·
    have h1' := h1 a ha
    unfold wpList at h1'
    unfold wpOp
    simp only [hi]
    split
    · rename_i hw
      rw [if_pos hw] at h1'
      rcases h1' with h1' | ⟨h1', h2'⟩
      · exact .inl (upon_HQ h1')
      · exact .inr ⟨h1', let ⟨a, w, h⟩ := h2'; ⟨a, w, h⟩⟩
    · rename_i hw
      rw [if_neg hw] at h1'
      exact h1'
  ·
    have h1' := h2 a ha
    unfold wpList at h1'
    unfold wpOp
    simp only [hj]
    split
    · rename_i hw
      rw [if_pos hw] at h1'
      rcases h1' with h1' | ⟨h1', h2'⟩
      · exact .inl (upon_HQ h1')
      · exact .inr ⟨h1', let ⟨a, w, h⟩ := h2'; ⟨a, w, h⟩⟩
    · rename_i hw
      rw [if_neg hw] at h1'
      exact h1'
theorem Q.split {l : List Oper} {b : Bool} (t : Nat) (hb : look env t = some (.bool b)) (ht : b = true → wpQ P ops w Qn s l ((t, .bool true) :: env)) (hf : b = false → wpQ P ops w Qn s l ((t, .bool false) :: env)) : wpQ P ops w Qn s l env := by
 cases b with
 | true => exact fun a ha => ht rfl a (ha.sub (Sub.cons hb (Sub.refl env)))
 | false => exact fun a ha => hf rfl a (ha.sub (Sub.cons hb (Sub.refl env)))
theorem Q.loadA {t : TypeId} {x : Operand} {b off : Nat} {cs : List Value} {ds : TypeDesc} (hx : ev env x = some (.pointer (some ⟨b, off, none⟩))) (ht : P.underlying t = some ds) (hna : (match ds with | .struct _ | .array _ _ => true | _ => false) = true)
  (hs : (P.info? t).map (·.size) = some cs.length) (hc : At w b off cs) (hd : Nat.blt d s.n = true) (h : wpQ P ops w Qn s rest ((d, .agg cs.toArray) :: env)) : wpQ P ops w Qn s (⟨some d, .load t x, ty, pos, aft, none⟩ :: rest) env :=
 Q.op (fun w' hw' a' ha => by
  have hc := hc.ext hw'
  have hagg : (isAgg t).run P w' = .ok true w' := by
   unfold isAgg
   rw [Sem.run_bind, run_underlying ht w']
   cases ds <;> simp_all
  have hl : (loadCells ⟨b, off, none⟩ cs.length).run P w' = .ok cs.toArray w' := run_loadCells_list (P := P) w' ⟨b, off, none⟩ cs (fun j v hv => by rw [addr_add]; exact hc j v hv)
  cases hq : P.info? t with
  | none => simp [hq] at hs
  | some inf =>
   have hs' : inf.size = cs.length := by simpa [hq] using hs
   simp [execOp, ha.ev hx, Instr.loadAt, Instr.sureAddr, loadVar, hagg, sizeOf, typeInfo, hq, hs', hl]) hd h
def putAt (cs : List Value) (o : Nat) (v : List Value) : List Value := cs.take o ++ v ++ cs.drop (o + v.length)
def buildCells : List Value → List Nat → List (Nat × Value) → List Value
 | zs, o :: os, v :: vs => buildCells (putAt zs o v.2.cells.toList) os vs
 | zs, _, _ => zs
theorem E.buildC {t : TypeId} {xs : List (Nat × Operand)} {vs : List (Nat × Value)} {cs : List Value} (zs : List Value) (offs : List Nat) (hx : evp env xs = some vs) (_hcs : buildCells zs offs vs = cs) (hb : (Instr.build t vs.toArray).run P w = .ok (.agg cs.toArray) w)
  (hd : Nat.blt d s.n = true) (h : wpE P ops Q s rest ((d, .agg cs.toArray) :: env) w) : wpE P ops Q s (⟨some d, .build t xs.toArray, ty, pos, aft, none⟩ :: rest) env w := E.build hx hb hd h
theorem E.mkM {α : Type} {enc : α → Value} {t e : TypeId} {n : Nat} {xs : List (Nat × Operand)} {vs : List (Nat × Value)} (l : List α) (hM : M w0 S w rs) (hx : evp env xs = some vs) (hb : ∀ w, (Instr.buildSlice t n vs.toArray).run P w = .ok (.slice (some ⟨w.heap.size, 0, none⟩) n n) (w.alloc (.cells (l.map enc).toArray e))) (hn : Nat.beq l.length n = true) (hs : Nat.ble n 1000000 = true)
  (hd : Nat.blt d s.n = true) (h : ∀ v w', M w0 S w' (rs ++ [Rg.sl enc e v l]) → wpE P ops Q s rest ((d, v) :: env) w') : wpE P ops Q s (⟨some d, .buildSlice t n xs.toArray, ty, pos, aft, none⟩ :: rest) env w := by
 have hn := Nat.eq_of_beq_eq_true hn
 have hs := Nat.le_of_ble_eq_true hs
 subst hn
 refine E.buildS hx hb hd (h _ _ (hM.new (Ext.new w _) (r := Rg.sl enc e _ l) ⟨by simp, .inr ⟨w.heap.size, l.length, (l.map enc).toArray, rfl, Nat.zero_le _, heap_alloc_new w _, Nat.le_refl _, by unfold maxLen; omega, by simp, by simp [List.take_of_length_le]⟩⟩ (fun k hk => by cases hk; exact Nat.le_refl _)))
theorem E.storeFM {α : Type} {enc : α → List Value} {sz : Nat} {e t : TypeId} {x y : Operand} {v : Value} {l : List α} {u o : Value} {k j : Nat} {ad : Addr} (i : Nat) (a' : α) (hM : M w0 S w rs) (hi : rs[i]? = some (Rg.slF enc sz e v l)) (hx : ev env x = some (.pointer (some ad))) (hy : ev env y = some u) (hs : (P.info? t).map (·.size) = some 1) (h1 : u.oneCell' = true)
  (had : ad = ⟨(bs v).1, (bs v).2 + k * sz + j, none⟩) (hk : k < l.length) (hold : (enc l[k])[j]? = some o) (he : enc a' = (enc l[k]).set j u)
  (h : ∀ w', M w0 S w' (rs.set i (Rg.slF enc sz e v (l.set k a'))) → wpE P ops Q s rest env w') : wpE P ops Q s (⟨none, .store t x y, ty, pos, aft, none⟩ :: rest) env w :=
 E.storeF j a' hx hy hs h1 (hM.ownF i hi) hk (by rw [had, Nat.add_assoc]; rfl) hold he fun w' ho g _ => h w' (hM.growF i hi ho g (.inl rfl))
end
end Go.Proofs.Ytbinlkobmlebpaa.Sym
namespace Go.Proofs.Ytbinlkobmlebpaa.Sym
open Go.RowKit
theorem M.bsub {w0 w : World} {S : Nat → Prop} {rs : List Rg} {b off n : Nat} {T : TypeId} {cs : List Value} (h : M w0 S w rs) (i : Nat) (hi : rs[i]? = some (Rg.blk b T cs)) : At w b off ((cs.drop off).take n) := fun j u hu => by
 rw [List.getElem?_take] at hu
 split at hu
 · rw [List.getElem?_drop] at hu; exact h.bcell i hi hu
 · cases hu
section
variable {P : Program} {ops : Array Oper} {Q : Exit → Act → World → Prop} {Qn Lq : Act → Prop} {s : St} {env : Env} {w0 w : World} {S : Nat → Prop} {rs : List Rg} {rest : List Oper}
variable {d : Nat} {ty : TypeId} {pos : String} {aft : Array Edge}
def EqT (P : Program) (t : TypeId) (n : Nat) : Prop := P.eqGuardType P.depth t = false ∧ ∀ (w : World) (xs ys : List Int), xs.length = n → ys.length = n → ∃ r : Bool, (Op.equal t (.agg (xs.map i64).toArray) (.agg (ys.map i64).toArray)).run P w = .ok r w ∧ (r = true ↔ xs = ys)
theorem eqI {P : Program} {t : TypeId} (d : Nat) (w : World) (a b : Int) (h : P.underlying t = some (.int .i64)) : (Op.equalIn (d + 1) t (i64 a) (i64 b)).run P w = .ok (decide (a = b)) w := by
 rw [run_equalIn_int w d t .i64 .i64 a b h]
 congr 1
theorem eqF_nil {P : Program} (d : Nat) (w : World) (xs ys : Array Value) : (Op.eqFields d xs ys []).run P w = .ok (decide True) w := rfl
theorem eqF_cons {P : Program} {d : Nat} {w : World} {xs ys : Array Value} {f : Field} {fs : List Field} {a b : Value} {p q : Prop} [Decidable p] [Decidable q] (hn : (f.name != "_") = true) (ha : (part f.type xs f.offset).run P w = .ok a w) (hb : (part f.type ys f.offset).run P w = .ok b w)
  (he : (Op.equalIn d f.type a b).run P w = .ok (decide p) w) (hr : (Op.eqFields d xs ys fs).run P w = .ok (decide q) w) : (Op.eqFields d xs ys (f :: fs)).run P w = .ok (decide (p ∧ q)) w := by
 have hn' : f.name ≠ "_" := by simpa using hn
 simp only [Op.eqFields, if_pos hn']
 rw [Sem.run_bind, ha]
 simp only [Result.andThen_ok]
 rw [Sem.run_bind, hb]
 simp only [Result.andThen_ok]
 rw [Sem.run_bind, he]
 simp only [Result.andThen_ok]
 by_cases hp : p
 · simp only [hp, decide_true, Bool.not_true, Bool.false_eq_true, if_false, true_and]; exact hr
 · simp [hp]
theorem eqS {P : Program} {t : TypeId} {fs : List Field} {d : Nat} {xs ys : Array Value} {w : World} {p : Prop} [Decidable p] (ht : P.underlying t = some (.struct fs.toArray)) (hp : P.stoodInHeld t = false) (h : (Op.eqFields d xs ys fs).run P w = .ok (decide p) w) : (Op.equalIn (d + 1) t (.agg xs) (.agg ys)).run P w = .ok (decide p) w := by
 have e : P.fieldsOf t = fs.toArray := by simp [Program.fieldsOf, ht]
 rw [run_equalIn_struct w d t xs ys (by rw [e]; exact ht) hp, e]
 simpa using h
theorem run_eqA {t : TypeId} {n : Nat} (x y : Operand) (hE : EqT P t n) (xs ys : List Int) (h1 : xs.length = n) (h2 : ys.length = n) (op : BinOp) (ho : op = .eql ∨ op = .neq) : ∃ r : Bool, (r = true ↔ xs = ys) ∧ ∀ w : World,
    (do eqGuard op t x y (.agg (xs.map i64).toArray) (.agg (ys.map i64).toArray); binOp op t (.agg (xs.map i64).toArray) (.agg (ys.map i64).toArray) : Sem Value).run P w = .ok (.bool (if op = .eql then r else !r)) w := by
  refine ⟨decide (xs = ys), by simp, fun w => ?_⟩
  obtain ⟨r, hr, hi⟩ := hE.2 w xs ys h1 h2
  have e : r = decide (xs = ys) := by rw [Bool.eq_iff_iff]; simpa using hi
  subst e
  have hr' : (Op.equalIn 10000 t (.agg (xs.map i64).toArray) (.agg (ys.map i64).toArray)).run P w = .ok (decide (xs = ys)) w := hr
  rw [Sem.run_bind, run_eqGuard_agg w op t x y _ _ hE.1]
  rcases ho with rfl | rfl
  · simp only [Result.andThen_ok]
    rw [run_eql_struct, hr']; rfl
  · simp only [Result.andThen_ok]
    rw [run_neq_struct, hr']; rfl
theorem E.eqA {t t2 : TypeId} {n : Nat} {x y : Operand} (xs ys : List Int) (hE : EqT P t n) (hx : ev env x = some (.agg (xs.map i64).toArray)) (hy : ev env y = some (.agg (ys.map i64).toArray)) (h1 : xs.length = n) (h2 : ys.length = n) (hd : Nat.blt d s.n = true)
  (h : wpE P ops Q s rest ((d, .bool (decide (xs = ys))) :: env) w) : wpE P ops Q s (⟨some d, .binOp .eql t x y t2, ty, pos, aft, none⟩ :: rest) env w := by
 obtain ⟨r, hi, hr⟩ := run_eqA x y hE xs ys h1 h2 .eql (.inl rfl)
 have e : r = decide (xs = ys) := by rw [Bool.eq_iff_iff]; simpa using hi
 subst e
 exact E.op (fun a ha => by
  have := hr w
  simp only [execOp, ha.ev hx, ha.ev hy]
  rw [Sem.run_bind, this]; rfl) hd h
theorem Q.neA {t t2 : TypeId} {n : Nat} {x y : Operand} (xs ys : List Int) (hE : EqT P t n) (hx : ev env x = some (.agg (xs.map i64).toArray)) (hy : ev env y = some (.agg (ys.map i64).toArray)) (h1 : xs.length = n) (h2 : ys.length = n) (hd : Nat.blt d s.n = true)
  (h : wpQ P ops w Qn s rest ((d, .bool (decide (xs ≠ ys))) :: env)) : wpQ P ops w Qn s (⟨some d, .binOp .neq t x y t2, ty, pos, aft, none⟩ :: rest) env := by
 obtain ⟨r, hi, hr⟩ := run_eqA x y hE xs ys h1 h2 .neq (.inr rfl)
 have e : (!r) = decide (xs ≠ ys) := by
  rw [Bool.eq_iff_iff]
  by_cases hxy : xs = ys <;> cases r <;> simp_all
 exact Q.op (fun w' _ a ha => by
  have := hr w'
  simp only [reduceCtorEq, if_false] at this
  rw [e] at this
  simp only [execOp, ha.ev hx, ha.ev hy]
  rw [Sem.run_bind, this]; rfl) hd h
theorem E.addN {t t2 : TypeId} {x y : Operand} {a b : Nat} (hx : ev env x = some (.int .i64 (a : Int))) (hy : ev env y = some (.int .i64 (b : Int))) (hr : a + b ≤ 9223372036854775807) (hd : Nat.blt d s.n = true) (h : wpE P ops Q s rest ((d, .int .i64 ((a + b : Nat) : Int)) :: env) w) : wpE P ops Q s (⟨some d, .binOp .add t x y t2, ty, pos, aft, none⟩ :: rest) env w :=
 E.add hx hy (by rw [← Int.natCast_add]; omega) hd (by rw [Int.natCast_add] at h; exact h)
theorem E.mulN {t t2 : TypeId} {x y : Operand} {a b : Nat} (hx : ev env x = some (.int .i64 (a : Int))) (hy : ev env y = some (.int .i64 (b : Int))) (hr : a * b ≤ 9223372036854775807) (hd : Nat.blt d s.n = true) (h : wpE P ops Q s rest ((d, .int .i64 ((a * b : Nat) : Int)) :: env) w) : wpE P ops Q s (⟨some d, .binOp .mul t x y t2, ty, pos, aft, none⟩ :: rest) env w :=
 E.mul hx hy (by rw [← Int.natCast_mul]; omega) hd (by rw [Int.natCast_mul] at h; exact h)
theorem E.subN {t t2 : TypeId} {x y : Operand} {a b : Nat} (hx : ev env x = some (.int .i64 (a : Int))) (hy : ev env y = some (.int .i64 (b : Int))) (hr : b ≤ a ∧ a ≤ 9223372036854775807) (hd : Nat.blt d s.n = true) (h : wpE P ops Q s rest ((d, .int .i64 ((a - b : Nat) : Int)) :: env) w) : wpE P ops Q s (⟨some d, .binOp .sub t x y t2, ty, pos, aft, none⟩ :: rest) env w :=
 E.sub' hx hy (by omega) hd (by rw [show ((a - b : Nat) : Int) = (a : Int) - (b : Int) by omega] at h; exact h)
theorem S.subN {t t2 : TypeId} {x y : Operand} {a b : Nat} (hx : ev env x = some (.int .i64 (a : Int))) (hy : ev env y = some (.int .i64 (b : Int))) (hr : b ≤ a ∧ a ≤ 9223372036854775807) (hd : Nat.blt d s.n = true) (h : wpS P ops Lq s rest ((d, .int .i64 ((a - b : Nat) : Int)) :: env) w) : wpS P ops Lq s (⟨some d, .binOp .sub t x y t2, ty, pos, aft, none⟩ :: rest) env w :=
 S.sub' hx hy (by omega) hd (by rw [show ((a - b : Nat) : Int) = (a : Int) - (b : Int) by omega] at h; exact h)
theorem Q.addN {t t2 : TypeId} {x y : Operand} {a b : Nat} (hx : ev env x = some (.int .i64 (a : Int))) (hy : ev env y = some (.int .i64 (b : Int))) (hr : a + b ≤ 9223372036854775807) (hd : Nat.blt d s.n = true) (h : wpQ P ops w Qn s rest ((d, .int .i64 ((a + b : Nat) : Int)) :: env)) : wpQ P ops w Qn s (⟨some d, .binOp .add t x y t2, ty, pos, aft, none⟩ :: rest) env :=
 Q.add hx hy (by rw [← Int.natCast_add]; omega) hd (by rw [Int.natCast_add] at h; exact h)
theorem Q.mulN {t t2 : TypeId} {x y : Operand} {a b : Nat} (hx : ev env x = some (.int .i64 (a : Int))) (hy : ev env y = some (.int .i64 (b : Int))) (hr : a * b ≤ 9223372036854775807) (hd : Nat.blt d s.n = true) (h : wpQ P ops w Qn s rest ((d, .int .i64 ((a * b : Nat) : Int)) :: env)) : wpQ P ops w Qn s (⟨some d, .binOp .mul t x y t2, ty, pos, aft, none⟩ :: rest) env :=
 Q.mul hx hy (by rw [← Int.natCast_mul]; omega) hd (by rw [Int.natCast_mul] at h; exact h)
theorem Q.subN {t t2 : TypeId} {x y : Operand} {a b : Nat} (hx : ev env x = some (.int .i64 (a : Int))) (hy : ev env y = some (.int .i64 (b : Int))) (hr : b ≤ a ∧ a ≤ 9223372036854775807) (hd : Nat.blt d s.n = true) (h : wpQ P ops w Qn s rest ((d, .int .i64 ((a - b : Nat) : Int)) :: env)) : wpQ P ops w Qn s (⟨some d, .binOp .sub t x y t2, ty, pos, aft, none⟩ :: rest) env :=
 Q.sub' hx hy (by omega) hd (by rw [show ((a - b : Nat) : Int) = (a : Int) - (b : Int) by omega] at h; exact h)
theorem Y.addN {t t2 : TypeId} {x y : Operand} {a b : Nat} (hx : ev env x = some (.int .i64 (a : Int))) (hy : ev env y = some (.int .i64 (b : Int))) (hr : a + b ≤ 9223372036854775807) : Yld P ops s env w ⟨some d, .binOp .add t x y t2, ty, pos, aft, none⟩ (.int .i64 ((a + b : Nat) : Int)) := by
 rw [Int.natCast_add]
 exact Y.add hx hy (by rw [← Int.natCast_add]; omega)
theorem Y.subN {t t2 : TypeId} {x y : Operand} {a b : Nat} (hx : ev env x = some (.int .i64 (a : Int))) (hy : ev env y = some (.int .i64 (b : Int))) (hr : b ≤ a ∧ a ≤ 9223372036854775807) : Yld P ops s env w ⟨some d, .binOp .sub t x y t2, ty, pos, aft, none⟩ (.int .i64 ((a - b : Nat) : Int)) := by
 rw [show ((a - b : Nat) : Int) = (a : Int) - (b : Int) by omega]
 exact Y.sub' hx hy (by omega)
end
end Go.Proofs.Ytbinlkobmlebpaa.Sym
namespace Go.Proofs.Ytbinlkobmlebpaa.Sym
open Go.RowKit
theorem look_val {env : Env} {d : Nat} {k : IntKind} {x y : Int} (h : look env d = some (.int k x)) (e : x = y) : look env d = some (.int k y) := by rw [h, e]
theorem look_eq {env : Env} {d : Nat} {x y : Value} (h : look env d = some x) (e : x = y) : look env d = some y := by rw [h, e]
section
variable {P : Program} {ops : Array Oper} {Q : Exit → Act → World → Prop} {Qn Lq : Act → Prop} {s : St} {env : Env} {w0 w : World} {S : Nat → Prop} {rs : List Rg} {rest : List Oper}
variable {d : Nat} {ty : TypeId} {pos : String} {aft : Array Edge}
end
end Go.Proofs.Ytbinlkobmlebpaa.Sym
namespace Go.Proofs.Ytbinlkobmlebpaa.Sym
open Go.RowKit Go.Conc.Locks Go.MuLone
section
variable {P : Program} {ops : Array Oper} {Q : Exit → Act → World → Prop} {Qn Lq : Act → Prop} {s : St} {env : Env} {w0 w w' : World} {S : Nat → Prop} {rs : List Rg} {rest : List Oper}
variable {d : Nat} {ty : TypeId} {pos : String} {aft : Array Edge}
end
section
variable {w0 w w' : World} {S : Nat → Prop} {rs : List Rg} {r q p : Rg}
def Rg.emp : Rg := ⟨fun _ => False, fun _ => True, fun _ h => h, fun _ _ h => h.elim⟩
theorem M.join (h : M w0 S w rs) (i j : Nat) (hne : i ≠ j) (hi : rs[i]? = some r) (hj : rs[j]? = some q) (hp : p.ok w) (hf : ∀ k, p.fp k → r.fp k ∨ q.fp k) : M w0 S w ((rs.set j Rg.emp).set i p) := by
  have hli : i < rs.length := (List.getElem?_eq_some_iff.1 hi).1
  have hlj : j < rs.length := (List.getElem?_eq_some_iff.1 hj).1
  have at_ : ∀ a x, ((rs.set j Rg.emp).set i p)[a]? = some x → (a = i ∧ x = p) ∨ (a = j ∧ x = Rg.emp) ∨ (a ≠ i ∧ a ≠ j ∧ rs[a]? = some x) := fun a x hx => by
    by_cases e : i = a
    · subst e; rw [List.getElem?_set_self (by simpa using hli)] at hx; exact .inl ⟨rfl, (Option.some.inj hx).symm⟩
    · rw [List.getElem?_set_ne e] at hx
      by_cases e2 : j = a
      · subst e2; rw [List.getElem?_set_self hlj] at hx; exact .inr (.inl ⟨rfl, (Option.some.inj hx).symm⟩)
      · rw [List.getElem?_set_ne e2] at hx; exact .inr (.inr ⟨fun h => e h.symm, fun h => e2 h.symm, hx⟩)
  refine ⟨⟨fun a x hx => ?_, fun a b x y ha hb hab k hk hk' => ?_⟩, fun a x hx k hk => ?_, h.fr⟩
  · rcases at_ a x hx with ⟨_, rfl⟩ | ⟨_, rfl⟩ | ⟨_, _, hx⟩
    · exact hp
    · trivial
    · exact h.ok hx
  · rcases at_ a x ha with ⟨ea, ex⟩ | ⟨ea, ex⟩ | ⟨na, na', ha⟩
    · rcases at_ b y hb with ⟨eb, ey⟩ | ⟨eb, ey⟩ | ⟨nb, nb', hb⟩
      · exact hab (ea.trans eb.symm)
      · rw [ey] at hk'; exact hk'
      · rw [ex] at hk
        rcases hf k hk with h1 | h1
        · exact h.sep.apart i b r y hi hb (fun e => nb e.symm) k h1 hk'
        · exact h.sep.apart j b q y hj hb (fun e => nb' e.symm) k h1 hk'
    · rw [ex] at hk; exact hk
    · rcases at_ b y hb with ⟨eb, ey⟩ | ⟨eb, ey⟩ | ⟨nb, nb', hb⟩
      · rw [ey] at hk'
        rcases hf k hk' with h1 | h1
        · exact h.sep.apart a i x r ha hi na k hk h1
        · exact h.sep.apart a j x q ha hj na' k hk h1
      · rw [ey] at hk'; exact hk'
      · exact h.sep.apart a b x y ha hb hab k hk hk'
  · rcases at_ a x hx with ⟨_, e⟩ | ⟨_, e⟩ | ⟨_, _, hx⟩
    · rw [e] at hk
      rcases hf k hk with h1 | h1
      · exact h.mine i r hi k h1
      · exact h.mine j q hj k h1
    · rw [e] at hk; exact hk.elim
    · exact h.mine a x hx k hk
theorem M.calls {outs : List Rg} (h : M w0 S w rs) (is : List Nat) (hn : is.Nodup) (hlen : is.length = (is.filterMap (rs[·]?)).length) (hl : is.length ≤ outs.length) (k : M w (fpU (is.filterMap (rs[·]?))) w' outs) : M w0 S w' (repl rs is outs) := h.callM is hn rfl hlen hl k
end
abbrev Hd := Option Addr × Nat × Nat
abbrev slv (x : Hd) : Value := .slice x.1 x.2.1 x.2.2
def Bag (w : World) (hs : List Hd) (ls : List (List UInt8)) : Prop := hs.length = ls.length ∧ ∀ (i : Nat) h l, hs[i]? = some h → ls[i]? = some l → RdL u8 w (slv h) l
theorem Bag.at {w : World} {hs : List Hd} {ls : List (List UInt8)} (h : Bag w hs ls) {i : Nat} (hi : i < ls.length) : RdL u8 w (slv (hs[i]'(by rw [h.1]; exact hi))) ls[i] := h.2 i _ _ (List.getElem?_eq_getElem _) (List.getElem?_eq_getElem _)
section
variable {w0 w w' : World} {S : Nat → Prop} {rs : List Rg}
end
def partV (v : Value) (a b : Nat) : Value := match v with
 | .slice c _ cap => .slice (if cap = a then c else c.map (·.add (a * 1))) (b - a) (cap - a)
 | v => v
theorem Rd.partP {w : World} {v : Value} {sz n : Nat} {cs : List Value} {a b : Nat} (h : Rd w sz v n cs) (h1 : a ≤ b) (h2 : b ≤ n) : Part 1 v (partV v a b) a b := by
 obtain ⟨c, cap, hv, _⟩ := h
 subst hv
 exact ⟨c, n, cap, rfl, h1, h2, rfl⟩
theorem RdL.partV {α : Type} {enc : α → Value} {w : World} {v : Value} {l : List α} {a b : Nat} (h : RdL enc w v l) (h1 : a ≤ b) (h2 : b ≤ l.length) : RdL enc w (partV v a b) (cutL a b l) := h.part (Rd.partP h h1 h2)
section
variable {P : Program} {ops : Array Oper} {Q : Exit → Act → World → Prop} {Qn Lq : Act → Prop} {s : St} {env : Env} {w0 w w' : World} {S : Nat → Prop} {rs : List Rg} {rest : List Oper}
variable {d : Nat} {ty : TypeId} {pos : String} {aft : Array Edge}
theorem run_slcP {α : Type} {enc : α → Value} {l : List α} {t e : TypeId} {x : Operand} {lo hi : Option Operand} {v : Value} {k k' : IntKind} (a b : Nat) (hx : ev env x = some v)
    (hlo : lo.map (ev env) = some (some (.int k (a : Int))) ∨ (lo = none ∧ a = 0)) (hhi : hi.map (ev env) = some (some (.int k' (b : Int))) ∨ (hi = none ∧ b = l.length)) (hR : RdL enc w v l)
    (ht : P.underlying t = some (.slice e)) (hs : (P.info? e).map (·.size) = some 1) (hl : a ≤ b) (hh : b ≤ l.length) (a' : Act) (ha : Sat s a' env) (dst : Option Nat) : (execOp a'.eval ⟨dst, .slice t x lo hi none, ty, pos, aft, none⟩).run P w = .ok (.value (partV v a b)) w := by
  obtain ⟨c, cap, hv, hc, _⟩ := hR
  subst hv
  have h1 : lo.map a'.eval = some (.int k (a : Int)) ∨ (lo.map a'.eval = none ∧ a = 0) := by
    rcases hlo with hlo | ⟨rfl, h0⟩
    · cases lo with
      | none => simp at hlo
      | some y => simp at hlo; left; simp [ha.ev hlo]
    · right; exact ⟨rfl, h0⟩
  have h2 : hi.map a'.eval = some (.int k' (b : Int)) ∨ (hi.map a'.eval = none ∧ b = l.length) := by
    rcases hhi with hhi | ⟨rfl, h0⟩
    · cases hi with
      | none => simp at hhi
      | some y => simp at hhi; left; simp [ha.ev hhi]
    · right; exact ⟨rfl, h0⟩
  have := run_slice (P := P) (w := w) (a := c) ht hs h1 h2 hl hh hc
  simp [execOp, ha.ev hx, this, partV]
theorem E.slcP {α : Type} {enc : α → Value} {l : List α} {t e : TypeId} {x : Operand} {lo hi : Option Operand} {v : Value} {k k' : IntKind} (a b : Nat) (hx : ev env x = some v)
  (hlo : lo.map (ev env) = some (some (.int k (a : Int))) ∨ (lo = none ∧ a = 0)) (hhi : hi.map (ev env) = some (some (.int k' (b : Int))) ∨ (hi = none ∧ b = l.length)) (hR : RdL enc w v l)
  (ht : P.underlying t = some (.slice e)) (hs : (P.info? e).map (·.size) = some 1) (hl : a ≤ b) (hh : b ≤ l.length) (hd : Nat.blt d s.n = true)
  (h : wpE P ops Q s rest ((d, partV v a b) :: env) w) : wpE P ops Q s (⟨some d, .slice t x lo hi none, ty, pos, aft, none⟩ :: rest) env w :=
 E.op (fun a' ha => run_slcP a b hx hlo hhi hR ht hs hl hh a' ha _) hd h
end
end Go.Proofs.Ytbinlkobmlebpaa.Sym
