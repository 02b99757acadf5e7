/- Texts of the claim, laid together: SymT, SymU, SymV. -/
import Derived.DeepKeys
import Derived.Laws.StructEq
import Derived.Defers
import Derived.Laws.IdiomStrings
import Derived.Conc.MuLone
import Derived.Test.YtajklleiifhipaaGreatDoorY2
set_option linter.unusedSimpArgs false
set_option linter.unusedVariables false
namespace Go.Proofs.YtajklleiifhipaaGreatDoor.Sym
open Go.RowKit
theorem look_app (a b : Env) (j : Nat) : look (a ++ b) j = (look a j).or (look b j) := by
 induction a with
 | nil => rfl
 | cons e a ih =>
  show look ((e.1, e.2) :: (a ++ b)) j = (look ((e.1, e.2) :: a) j).or _
  rw [look_cons, look_cons, ih]
  by_cases h : e.1 = j
  · simp [h]
  simp [h]
theorem Sub.app {a b env : Env} (h : Sub a env) (k : Sub b env) : Sub (a ++ b) env := fun i v hv => by
 rw [look_app] at hv
 cases ha : look a i with
 | some u => rw [ha] at hv; exact h i v (by rw [ha]; exact hv)
 | none => rw [ha] at hv; exact k i v hv
def now : Env → Env → Env
 | [], _ => []
 | (i, _) :: r, env => match look env i with
  | some v => (i, v) :: now r env
  | none => now r env
theorem Sub.now : ∀ (E env : Env), Sub (now E env) env
 | [], env => Sub.nil env
 | (i, u) :: r, env => by
  unfold Sym.now
  cases h : look env i with
  | none => exact Sub.now r env
  | some v => exact Sub.cons h (Sub.now r env)
theorem Sub.same {E env : Env} (h : Sym.now E env = E) : Sub E env := by
 have := Sub.now E env
 rw [h] at this; exact this
section
variable {P : Program} {Q : Exit → Act → World → Prop} {s : St} {env : Env} {w : World}
def Join0 (s : St) (mods : Env) (φ : World → Prop) (E0 : Env) (a : Act) (w : World) : Prop := Sat s a (mods ++ E0) ∧ φ w
theorem C.cut0 (E0 : Env) (_hE : now E0 env = E0) (mods : Env) (φ : World → Prop) {x y : Code} (hx : wpC P x (Exit.then (Join0 s mods φ E0) Q) s env w) (hy : ∀ w, φ w → wpC P y Q s (mods ++ E0) w) : wpC P (.seq x y) Q s env w := fun a ha =>
 wp_seq (wp_mono (hx a ha) fun e a' w' h => by
  cases e with
  | normal => obtain ⟨h1, h2⟩ := h; exact hy w' h2 a' h1
  | _ => exact h)
theorem X.join0 {mods : Env} {φ : World → Prop} {E0 : Env}  (r : Sub (mods) env) (hs : now E0 env = E0) (h : φ w) : wpX .normal (Exit.then (Join0 s mods φ E0) Q) s env w := fun _ ha => ⟨ha.sub (Sub.app r (Sub.same hs)), h⟩
def Join1 {A0 : Type} (s : St) (mods : A0 → Env) (φ : A0 → World → Prop) (E0 : Env) (a : Act) (w : World) : Prop := ∃ x0, Sat s a (mods x0 ++ E0) ∧ φ x0 w
theorem C.cut1 {A0 : Type} (E0 : Env) (_hE : now E0 env = E0) (mods : A0 → Env) (φ : A0 → World → Prop) {x y : Code} (hx : wpC P x (Exit.then (Join1 s mods φ E0) Q) s env w) (hy : ∀ x0 w, φ x0 w → wpC P y Q s (mods x0 ++ E0) w) : wpC P (.seq x y) Q s env w := fun a ha =>
 wp_seq (wp_mono (hx a ha) fun e a' w' h => by
  cases e with
  | normal => obtain ⟨x0, h1, h2⟩ := h; exact hy x0 w' h2 a' h1
  | _ => exact h)
theorem X.join1 {A0 : Type} {mods : A0 → Env} {φ : A0 → World → Prop} {E0 : Env} (x0 : A0) (r : Sub (mods x0) env) (hs : now E0 env = E0) (h : φ x0 w) : wpX .normal (Exit.then (Join1 s mods φ E0) Q) s env w := fun _ ha => ⟨x0, ha.sub (Sub.app r (Sub.same hs)), h⟩
def Again1 {A0 : Type} (s : St) (mods : A0 → Env) (φ : A0 → World → Prop) (μ : A0 → Nat) (E0 : Env) (m : Nat) (a : Act) (w : World) : Prop := ∃ x0, Sat s a (mods x0 ++ E0) ∧ φ x0 w ∧ μ x0 < m
theorem C.loop1 {A0 : Type} (E0 : Env) (hE : now E0 env = E0) (mods : A0 → Env) (φ : A0 → World → Prop) (μ : A0 → Nat) (x0 : A0) {c : Code} (h0 : Sub (mods x0) env) (hφ : φ x0 w)
  (round : ∀ x0 w, φ x0 w → wpC P c (Exit.then (Again1 s mods φ μ E0 (μ x0)) Q) s (mods x0 ++ E0) w) : wpC P (.loop c) Q s env w :=
 C.loop (G := A0) (fun g => mods g ++ E0) (fun g w => φ g w) (fun g => μ g) x0 (Sub.app h0 (Sub.same hE)) hφ fun g w hg a ha => wp_mono (round g w hg a ha) fun e a' w' h => by
  cases e with
  | normal => obtain ⟨x0, h1, h2, h3⟩ := h; exact ⟨x0, h1, h2, h3⟩
  | _ => exact h
theorem X.again1 {A0 : Type} {mods : A0 → Env} {φ : A0 → World → Prop} {μ : A0 → Nat} {E0 : Env} {m : Nat} (x0 : A0) (r : Sub (mods x0) env) (hs : now E0 env = E0) (h : φ x0 w) (hm : μ x0 < m) : wpX .normal (Exit.then (Again1 s mods φ μ E0 m) Q) s env w := fun _ ha => ⟨x0, ha.sub (Sub.app r (Sub.same hs)), h, hm⟩
def Join2 {A0 A1 : Type} (s : St) (mods : A0 → A1 → Env) (φ : A0 → A1 → World → Prop) (E0 : Env) (a : Act) (w : World) : Prop := ∃ x0 x1, Sat s a (mods x0 x1 ++ E0) ∧ φ x0 x1 w
theorem C.cut2 {A0 A1 : Type} (E0 : Env) (_hE : now E0 env = E0) (mods : A0 → A1 → Env) (φ : A0 → A1 → World → Prop) {x y : Code} (hx : wpC P x (Exit.then (Join2 s mods φ E0) Q) s env w) (hy : ∀ x0 x1 w, φ x0 x1 w → wpC P y Q s (mods x0 x1 ++ E0) w) : wpC P (.seq x y) Q s env w := fun a ha =>
 wp_seq (wp_mono (hx a ha) fun e a' w' h => by
  cases e with
  | normal => obtain ⟨x0, x1, h1, h2⟩ := h; exact hy x0 x1 w' h2 a' h1
  | _ => exact h)
theorem X.join2 {A0 A1 : Type} {mods : A0 → A1 → Env} {φ : A0 → A1 → World → Prop} {E0 : Env} (x0 : A0) (x1 : A1) (r : Sub (mods x0 x1) env) (hs : now E0 env = E0) (h : φ x0 x1 w) : wpX .normal (Exit.then (Join2 s mods φ E0) Q) s env w := fun _ ha => ⟨x0, x1, ha.sub (Sub.app r (Sub.same hs)), h⟩
def Again2 {A0 A1 : Type} (s : St) (mods : A0 → A1 → Env) (φ : A0 → A1 → World → Prop) (μ : A0 → A1 → Nat) (E0 : Env) (m : Nat) (a : Act) (w : World) : Prop := ∃ x0 x1, Sat s a (mods x0 x1 ++ E0) ∧ φ x0 x1 w ∧ μ x0 x1 < m
theorem C.loop2 {A0 A1 : Type} (E0 : Env) (hE : now E0 env = E0) (mods : A0 → A1 → Env) (φ : A0 → A1 → World → Prop) (μ : A0 → A1 → Nat) (x0 : A0) (x1 : A1) {c : Code} (h0 : Sub (mods x0 x1) env) (hφ : φ x0 x1 w)
  (round : ∀ x0 x1 w, φ x0 x1 w → wpC P c (Exit.then (Again2 s mods φ μ E0 (μ x0 x1)) Q) s (mods x0 x1 ++ E0) w) : wpC P (.loop c) Q s env w :=
 C.loop (G := A0 × A1) (fun g => mods g.1 g.2 ++ E0) (fun g w => φ g.1 g.2 w) (fun g => μ g.1 g.2) (x0, x1) (Sub.app h0 (Sub.same hE)) hφ fun g w hg a ha => wp_mono (round g.1 g.2 w hg a ha) fun e a' w' h => by
  cases e with
  | normal => obtain ⟨x0, x1, h1, h2, h3⟩ := h; exact ⟨(x0, x1), h1, h2, h3⟩
  | _ => exact h
theorem X.again2 {A0 A1 : Type} {mods : A0 → A1 → Env} {φ : A0 → A1 → World → Prop} {μ : A0 → A1 → Nat} {E0 : Env} {m : Nat} (x0 : A0) (x1 : A1) (r : Sub (mods x0 x1) env) (hs : now E0 env = E0) (h : φ x0 x1 w) (hm : μ x0 x1 < m) : wpX .normal (Exit.then (Again2 s mods φ μ E0 m) Q) s env w := fun _ ha => ⟨x0, x1, ha.sub (Sub.app r (Sub.same hs)), h, hm⟩
def Join3 {A0 A1 A2 : Type} (s : St) (mods : A0 → A1 → A2 → Env) (φ : A0 → A1 → A2 → World → Prop) (E0 : Env) (a : Act) (w : World) : Prop := ∃ x0 x1 x2, Sat s a (mods x0 x1 x2 ++ E0) ∧ φ x0 x1 x2 w
theorem C.cut3 {A0 A1 A2 : Type} (E0 : Env) (_hE : now E0 env = E0) (mods : A0 → A1 → A2 → Env) (φ : A0 → A1 → A2 → World → Prop) {x y : Code} (hx : wpC P x (Exit.then (Join3 s mods φ E0) Q) s env w) (hy : ∀ x0 x1 x2 w, φ x0 x1 x2 w → wpC P y Q s (mods x0 x1 x2 ++ E0) w) : wpC P (.seq x y) Q s env w := fun a ha =>
 wp_seq (wp_mono (hx a ha) fun e a' w' h => by
  cases e with
  | normal => obtain ⟨x0, x1, x2, h1, h2⟩ := h; exact hy x0 x1 x2 w' h2 a' h1
  | _ => exact h)
theorem X.join3 {A0 A1 A2 : Type} {mods : A0 → A1 → A2 → Env} {φ : A0 → A1 → A2 → World → Prop} {E0 : Env} (x0 : A0) (x1 : A1) (x2 : A2) (r : Sub (mods x0 x1 x2) env) (hs : now E0 env = E0) (h : φ x0 x1 x2 w) : wpX .normal (Exit.then (Join3 s mods φ E0) Q) s env w := fun _ ha => ⟨x0, x1, x2, ha.sub (Sub.app r (Sub.same hs)), h⟩
def Again3 {A0 A1 A2 : Type} (s : St) (mods : A0 → A1 → A2 → Env) (φ : A0 → A1 → A2 → World → Prop) (μ : A0 → A1 → A2 → Nat) (E0 : Env) (m : Nat) (a : Act) (w : World) : Prop := ∃ x0 x1 x2, Sat s a (mods x0 x1 x2 ++ E0) ∧ φ x0 x1 x2 w ∧ μ x0 x1 x2 < m
theorem C.loop3 {A0 A1 A2 : Type} (E0 : Env) (hE : now E0 env = E0) (mods : A0 → A1 → A2 → Env) (φ : A0 → A1 → A2 → World → Prop) (μ : A0 → A1 → A2 → Nat) (x0 : A0) (x1 : A1) (x2 : A2) {c : Code} (h0 : Sub (mods x0 x1 x2) env) (hφ : φ x0 x1 x2 w)
  (round : ∀ x0 x1 x2 w, φ x0 x1 x2 w → wpC P c (Exit.then (Again3 s mods φ μ E0 (μ x0 x1 x2)) Q) s (mods x0 x1 x2 ++ E0) w) : wpC P (.loop c) Q s env w :=
 C.loop (G := A0 × A1 × A2) (fun g => mods g.1 g.2.1 g.2.2 ++ E0) (fun g w => φ g.1 g.2.1 g.2.2 w) (fun g => μ g.1 g.2.1 g.2.2) (x0, x1, x2) (Sub.app h0 (Sub.same hE)) hφ fun g w hg a ha => wp_mono (round g.1 g.2.1 g.2.2 w hg a ha) fun e a' w' h => by
  cases e with
  | normal => obtain ⟨x0, x1, x2, h1, h2, h3⟩ := h; exact ⟨(x0, x1, x2), h1, h2, h3⟩
  | _ => exact h
theorem X.again3 {A0 A1 A2 : Type} {mods : A0 → A1 → A2 → Env} {φ : A0 → A1 → A2 → World → Prop} {μ : A0 → A1 → A2 → Nat} {E0 : Env} {m : Nat} (x0 : A0) (x1 : A1) (x2 : A2) (r : Sub (mods x0 x1 x2) env) (hs : now E0 env = E0) (h : φ x0 x1 x2 w) (hm : μ x0 x1 x2 < m) : wpX .normal (Exit.then (Again3 s mods φ μ E0 m) Q) s env w := fun _ ha => ⟨x0, x1, x2, ha.sub (Sub.app r (Sub.same hs)), h, hm⟩
def Join4 {A0 A1 A2 A3 : Type} (s : St) (mods : A0 → A1 → A2 → A3 → Env) (φ : A0 → A1 → A2 → A3 → World → Prop) (E0 : Env) (a : Act) (w : World) : Prop := ∃ x0 x1 x2 x3, Sat s a (mods x0 x1 x2 x3 ++ E0) ∧ φ x0 x1 x2 x3 w
theorem C.cut4 {A0 A1 A2 A3 : Type} (E0 : Env) (_hE : now E0 env = E0) (mods : A0 → A1 → A2 → A3 → Env) (φ : A0 → A1 → A2 → A3 → World → Prop) {x y : Code} (hx : wpC P x (Exit.then (Join4 s mods φ E0) Q) s env w) (hy : ∀ x0 x1 x2 x3 w, φ x0 x1 x2 x3 w → wpC P y Q s (mods x0 x1 x2 x3 ++ E0) w) : wpC P (.seq x y) Q s env w := fun a ha =>
 wp_seq (wp_mono (hx a ha) fun e a' w' h => by
  cases e with
  | normal => obtain ⟨x0, x1, x2, x3, h1, h2⟩ := h; exact hy x0 x1 x2 x3 w' h2 a' h1
  | _ => exact h)
theorem X.join4 {A0 A1 A2 A3 : Type} {mods : A0 → A1 → A2 → A3 → Env} {φ : A0 → A1 → A2 → A3 → World → Prop} {E0 : Env} (x0 : A0) (x1 : A1) (x2 : A2) (x3 : A3) (r : Sub (mods x0 x1 x2 x3) env) (hs : now E0 env = E0) (h : φ x0 x1 x2 x3 w) : wpX .normal (Exit.then (Join4 s mods φ E0) Q) s env w := fun _ ha => ⟨x0, x1, x2, x3, ha.sub (Sub.app r (Sub.same hs)), h⟩
def Again4 {A0 A1 A2 A3 : Type} (s : St) (mods : A0 → A1 → A2 → A3 → Env) (φ : A0 → A1 → A2 → A3 → World → Prop) (μ : A0 → A1 → A2 → A3 → Nat) (E0 : Env) (m : Nat) (a : Act) (w : World) : Prop := ∃ x0 x1 x2 x3, Sat s a (mods x0 x1 x2 x3 ++ E0) ∧ φ x0 x1 x2 x3 w ∧ μ x0 x1 x2 x3 < m
theorem C.loop4 {A0 A1 A2 A3 : Type} (E0 : Env) (hE : now E0 env = E0) (mods : A0 → A1 → A2 → A3 → Env) (φ : A0 → A1 → A2 → A3 → World → Prop) (μ : A0 → A1 → A2 → A3 → Nat) (x0 : A0) (x1 : A1) (x2 : A2) (x3 : A3) {c : Code} (h0 : Sub (mods x0 x1 x2 x3) env) (hφ : φ x0 x1 x2 x3 w)
  (round : ∀ x0 x1 x2 x3 w, φ x0 x1 x2 x3 w → wpC P c (Exit.then (Again4 s mods φ μ E0 (μ x0 x1 x2 x3)) Q) s (mods x0 x1 x2 x3 ++ E0) w) : wpC P (.loop c) Q s env w :=
 C.loop (G := A0 × A1 × A2 × A3) (fun g => mods g.1 g.2.1 g.2.2.1 g.2.2.2 ++ E0) (fun g w => φ g.1 g.2.1 g.2.2.1 g.2.2.2 w) (fun g => μ g.1 g.2.1 g.2.2.1 g.2.2.2) (x0, x1, x2, x3) (Sub.app h0 (Sub.same hE)) hφ fun g w hg a ha => wp_mono (round g.1 g.2.1 g.2.2.1 g.2.2.2 w hg a ha) fun e a' w' h => by
  cases e with
  | normal => obtain ⟨x0, x1, x2, x3, h1, h2, h3⟩ := h; exact ⟨(x0, x1, x2, x3), h1, h2, h3⟩
  | _ => exact h
theorem X.again4 {A0 A1 A2 A3 : Type} {mods : A0 → A1 → A2 → A3 → Env} {φ : A0 → A1 → A2 → A3 → World → Prop} {μ : A0 → A1 → A2 → A3 → Nat} {E0 : Env} {m : Nat} (x0 : A0) (x1 : A1) (x2 : A2) (x3 : A3) (r : Sub (mods x0 x1 x2 x3) env) (hs : now E0 env = E0) (h : φ x0 x1 x2 x3 w) (hm : μ x0 x1 x2 x3 < m) : wpX .normal (Exit.then (Again4 s mods φ μ E0 m) Q) s env w := fun _ ha => ⟨x0, x1, x2, x3, ha.sub (Sub.app r (Sub.same hs)), h, hm⟩
def Join5 {A0 A1 A2 A3 A4 : Type} (s : St) (mods : A0 → A1 → A2 → A3 → A4 → Env) (φ : A0 → A1 → A2 → A3 → A4 → World → Prop) (E0 : Env) (a : Act) (w : World) : Prop := ∃ x0 x1 x2 x3 x4, Sat s a (mods x0 x1 x2 x3 x4 ++ E0) ∧ φ x0 x1 x2 x3 x4 w
theorem C.cut5 {A0 A1 A2 A3 A4 : Type} (E0 : Env) (_hE : now E0 env = E0) (mods : A0 → A1 → A2 → A3 → A4 → Env) (φ : A0 → A1 → A2 → A3 → A4 → World → Prop) {x y : Code} (hx : wpC P x (Exit.then (Join5 s mods φ E0) Q) s env w) (hy : ∀ x0 x1 x2 x3 x4 w, φ x0 x1 x2 x3 x4 w → wpC P y Q s (mods x0 x1 x2 x3 x4 ++ E0) w) : wpC P (.seq x y) Q s env w := fun a ha =>
 wp_seq (wp_mono (hx a ha) fun e a' w' h => by
  cases e with
  | normal => obtain ⟨x0, x1, x2, x3, x4, h1, h2⟩ := h; exact hy x0 x1 x2 x3 x4 w' h2 a' h1
  | _ => exact h)
theorem X.join5 {A0 A1 A2 A3 A4 : Type} {mods : A0 → A1 → A2 → A3 → A4 → Env} {φ : A0 → A1 → A2 → A3 → A4 → World → Prop} {E0 : Env} (x0 : A0) (x1 : A1) (x2 : A2) (x3 : A3) (x4 : A4) (r : Sub (mods x0 x1 x2 x3 x4) env) (hs : now E0 env = E0) (h : φ x0 x1 x2 x3 x4 w) : wpX .normal (Exit.then (Join5 s mods φ E0) Q) s env w := fun _ ha => ⟨x0, x1, x2, x3, x4, ha.sub (Sub.app r (Sub.same hs)), h⟩
def Again5 {A0 A1 A2 A3 A4 : Type} (s : St) (mods : A0 → A1 → A2 → A3 → A4 → Env) (φ : A0 → A1 → A2 → A3 → A4 → World → Prop) (μ : A0 → A1 → A2 → A3 → A4 → Nat) (E0 : Env) (m : Nat) (a : Act) (w : World) : Prop := ∃ x0 x1 x2 x3 x4, Sat s a (mods x0 x1 x2 x3 x4 ++ E0) ∧ φ x0 x1 x2 x3 x4 w ∧ μ x0 x1 x2 x3 x4 < m
theorem C.loop5 {A0 A1 A2 A3 A4 : Type} (E0 : Env) (hE : now E0 env = E0) (mods : A0 → A1 → A2 → A3 → A4 → Env) (φ : A0 → A1 → A2 → A3 → A4 → World → Prop) (μ : A0 → A1 → A2 → A3 → A4 → Nat) (x0 : A0) (x1 : A1) (x2 : A2) (x3 : A3) (x4 : A4) {c : Code} (h0 : Sub (mods x0 x1 x2 x3 x4) env) (hφ : φ x0 x1 x2 x3 x4 w)
  (round : ∀ x0 x1 x2 x3 x4 w, φ x0 x1 x2 x3 x4 w → wpC P c (Exit.then (Again5 s mods φ μ E0 (μ x0 x1 x2 x3 x4)) Q) s (mods x0 x1 x2 x3 x4 ++ E0) w) : wpC P (.loop c) Q s env w :=
 C.loop (G := A0 × A1 × A2 × A3 × A4) (fun g => mods g.1 g.2.1 g.2.2.1 g.2.2.2.1 g.2.2.2.2 ++ E0) (fun g w => φ g.1 g.2.1 g.2.2.1 g.2.2.2.1 g.2.2.2.2 w) (fun g => μ g.1 g.2.1 g.2.2.1 g.2.2.2.1 g.2.2.2.2) (x0, x1, x2, x3, x4) (Sub.app h0 (Sub.same hE)) hφ fun g w hg a ha => wp_mono (round g.1 g.2.1 g.2.2.1 g.2.2.2.1 g.2.2.2.2 w hg a ha) fun e a' w' h => by
  cases e with
  | normal => obtain ⟨x0, x1, x2, x3, x4, h1, h2, h3⟩ := h; exact ⟨(x0, x1, x2, x3, x4), h1, h2, h3⟩
  | _ => exact h
theorem X.again5 {A0 A1 A2 A3 A4 : Type} {mods : A0 → A1 → A2 → A3 → A4 → Env} {φ : A0 → A1 → A2 → A3 → A4 → World → Prop} {μ : A0 → A1 → A2 → A3 → A4 → Nat} {E0 : Env} {m : Nat} (x0 : A0) (x1 : A1) (x2 : A2) (x3 : A3) (x4 : A4) (r : Sub (mods x0 x1 x2 x3 x4) env) (hs : now E0 env = E0) (h : φ x0 x1 x2 x3 x4 w) (hm : μ x0 x1 x2 x3 x4 < m) : wpX .normal (Exit.then (Again5 s mods φ μ E0 m) Q) s env w := fun _ ha => ⟨x0, x1, x2, x3, x4, ha.sub (Sub.app r (Sub.same hs)), h, hm⟩
def Join6 {A0 A1 A2 A3 A4 A5 : Type} (s : St) (mods : A0 → A1 → A2 → A3 → A4 → A5 → Env) (φ : A0 → A1 → A2 → A3 → A4 → A5 → World → Prop) (E0 : Env) (a : Act) (w : World) : Prop := ∃ x0 x1 x2 x3 x4 x5, Sat s a (mods x0 x1 x2 x3 x4 x5 ++ E0) ∧ φ x0 x1 x2 x3 x4 x5 w
theorem C.cut6 {A0 A1 A2 A3 A4 A5 : Type} (E0 : Env) (_hE : now E0 env = E0) (mods : A0 → A1 → A2 → A3 → A4 → A5 → Env) (φ : A0 → A1 → A2 → A3 → A4 → A5 → World → Prop) {x y : Code} (hx : wpC P x (Exit.then (Join6 s mods φ E0) Q) s env w) (hy : ∀ x0 x1 x2 x3 x4 x5 w, φ x0 x1 x2 x3 x4 x5 w → wpC P y Q s (mods x0 x1 x2 x3 x4 x5 ++ E0) w) : wpC P (.seq x y) Q s env w := fun a ha =>
 wp_seq (wp_mono (hx a ha) fun e a' w' h => by
  cases e with
  | normal => obtain ⟨x0, x1, x2, x3, x4, x5, h1, h2⟩ := h; exact hy x0 x1 x2 x3 x4 x5 w' h2 a' h1
  | _ => exact h)
theorem X.join6 {A0 A1 A2 A3 A4 A5 : Type} {mods : A0 → A1 → A2 → A3 → A4 → A5 → Env} {φ : A0 → A1 → A2 → A3 → A4 → A5 → World → Prop} {E0 : Env} (x0 : A0) (x1 : A1) (x2 : A2) (x3 : A3) (x4 : A4) (x5 : A5) (r : Sub (mods x0 x1 x2 x3 x4 x5) env) (hs : now E0 env = E0) (h : φ x0 x1 x2 x3 x4 x5 w) : wpX .normal (Exit.then (Join6 s mods φ E0) Q) s env w := fun _ ha => ⟨x0, x1, x2, x3, x4, x5, ha.sub (Sub.app r (Sub.same hs)), h⟩
def Again6 {A0 A1 A2 A3 A4 A5 : Type} (s : St) (mods : A0 → A1 → A2 → A3 → A4 → A5 → Env) (φ : A0 → A1 → A2 → A3 → A4 → A5 → World → Prop) (μ : A0 → A1 → A2 → A3 → A4 → A5 → Nat) (E0 : Env) (m : Nat) (a : Act) (w : World) : Prop := ∃ x0 x1 x2 x3 x4 x5, Sat s a (mods x0 x1 x2 x3 x4 x5 ++ E0) ∧ φ x0 x1 x2 x3 x4 x5 w ∧ μ x0 x1 x2 x3 x4 x5 < m
theorem C.loop6 {A0 A1 A2 A3 A4 A5 : Type} (E0 : Env) (hE : now E0 env = E0) (mods : A0 → A1 → A2 → A3 → A4 → A5 → Env) (φ : A0 → A1 → A2 → A3 → A4 → A5 → World → Prop) (μ : A0 → A1 → A2 → A3 → A4 → A5 → Nat) (x0 : A0) (x1 : A1) (x2 : A2) (x3 : A3) (x4 : A4) (x5 : A5) {c : Code} (h0 : Sub (mods x0 x1 x2 x3 x4 x5) env) (hφ : φ x0 x1 x2 x3 x4 x5 w)
  (round : ∀ x0 x1 x2 x3 x4 x5 w, φ x0 x1 x2 x3 x4 x5 w → wpC P c (Exit.then (Again6 s mods φ μ E0 (μ x0 x1 x2 x3 x4 x5)) Q) s (mods x0 x1 x2 x3 x4 x5 ++ E0) w) : wpC P (.loop c) Q s env w :=
 C.loop (G := A0 × A1 × A2 × A3 × A4 × A5) (fun g => mods g.1 g.2.1 g.2.2.1 g.2.2.2.1 g.2.2.2.2.1 g.2.2.2.2.2 ++ E0) (fun g w => φ g.1 g.2.1 g.2.2.1 g.2.2.2.1 g.2.2.2.2.1 g.2.2.2.2.2 w) (fun g => μ g.1 g.2.1 g.2.2.1 g.2.2.2.1 g.2.2.2.2.1 g.2.2.2.2.2) (x0, x1, x2, x3, x4, x5) (Sub.app h0 (Sub.same hE)) hφ fun g w hg a ha => wp_mono (round g.1 g.2.1 g.2.2.1 g.2.2.2.1 g.2.2.2.2.1 g.2.2.2.2.2 w hg a ha) fun e a' w' h => by
  cases e with
  | normal => obtain ⟨x0, x1, x2, x3, x4, x5, h1, h2, h3⟩ := h; exact ⟨(x0, x1, x2, x3, x4, x5), h1, h2, h3⟩
  | _ => exact h
theorem X.again6 {A0 A1 A2 A3 A4 A5 : Type} {mods : A0 → A1 → A2 → A3 → A4 → A5 → Env} {φ : A0 → A1 → A2 → A3 → A4 → A5 → World → Prop} {μ : A0 → A1 → A2 → A3 → A4 → A5 → Nat} {E0 : Env} {m : Nat} (x0 : A0) (x1 : A1) (x2 : A2) (x3 : A3) (x4 : A4) (x5 : A5) (r : Sub (mods x0 x1 x2 x3 x4 x5) env) (hs : now E0 env = E0) (h : φ x0 x1 x2 x3 x4 x5 w) (hm : μ x0 x1 x2 x3 x4 x5 < m) : wpX .normal (Exit.then (Again6 s mods φ μ E0 m) Q) s env w := fun _ ha => ⟨x0, x1, x2, x3, x4, x5, ha.sub (Sub.app r (Sub.same hs)), h, hm⟩
theorem C.chainE (E0 : Env) (hE : now E0 env = E0) (mods : Env) {x y : Code} (hx : wpC P x (Exit.then (Join0 s mods (fun w' => w' = w) E0) Q) s env w) (hy : wpC P y Q s (mods ++ E0) w) : wpC P (.seq x y) Q s env w := C.cut0 E0 hE mods _ hx fun _ h => h ▸ hy
theorem C.chainQ (E0 : Env) (hE : now E0 env = E0) (mods : Env) {x y : Code} (hx : wpC P x (Exit.then (Join0 s mods (fun w' => Ext w w') E0) Q) s env w) (hy : ∀ w', Ext w w' → wpC P y Q s (mods ++ E0) w') : wpC P (.seq x y) Q s env w := C.cut0 E0 hE mods _ hx hy
end
theorem Rd.one {w : World} {sz n : Nat} {v : Value} {cs : List Value} (h : Rd w sz v n cs) : v.oneCell' = true := by obtain ⟨a, cap, rfl⟩ := h.shape; rfl
theorem RdL.one {α : Type} {enc : α → Value} {w : World} {v : Value} {l : List α} (h : RdL enc w v l) : v.oneCell' = true := Rd.one h
theorem RdL.cellA {α : Type} {enc : α → Value} {w : World} {v : Value} {l : List α} (h : RdL enc w v l) {ad : Addr} {j : Nat} (had : ad = el v j) (hj : j < l.length) : w.cell? ad = some (enc l[j]) := had ▸ h.cell hj
theorem ones_nil : ∀ u ∈ ([] : List Value), u.oneCell' = true := by simp
theorem ones {a : Value} {l : List Value} (h : a.oneCell' = true) (t : ∀ u ∈ l, u.oneCell' = true) : ∀ u ∈ a :: l, u.oneCell' = true := fun u hu => by
 rcases List.mem_cons.1 hu with rfl | hu
 · exact h
 exact t u hu
def tab {α : Type} (n : Nat) (f : Nat → α) : List α := (List.range n).map f
theorem tab_len {α : Type} (n : Nat) (f : Nat → α) : (tab n f).length = n := by simp [tab]
theorem tab_get {α : Type} {n : Nat} {f : Nat → α} {i : Nat} (h : i < n) : (tab n f)[i]? = some (f i) := by simp [tab, h]
theorem tab_succ {α : Type} (n : Nat) (f : Nat → α) : tab (n + 1) f = tab n f ++ [f n] := by simp [tab, List.range_succ]
theorem tab_zero {α : Type} (f : Nat → α) : tab 0 f = [] := rfl
theorem tab_set {α : Type} {n i : Nat} {f : Nat → α} {z : α} (h : i < n) : (tab i f ++ List.replicate (n - i) z).set i (f i) = tab (i + 1) f ++ List.replicate (n - (i + 1)) z := by
 obtain ⟨k, hk⟩ : ∃ k, n - i = k + 1 := ⟨n - i - 1, by omega⟩
 rw [List.set_append_right _ _ (by rw [tab_len]; exact Nat.le_refl _), tab_len, Nat.sub_self, hk, List.replicate_succ, List.set_cons_zero, tab_succ, show n - (i + 1) = k by omega, List.append_assoc]; rfl
theorem tab_congr {α : Type} {n : Nat} {f g : Nat → α} (h : ∀ i, i < n → f i = g i) : tab n f = tab n g := List.map_congr_left fun i hi => h i (by simpa using hi)
theorem tab_eq {α : Type} {l : List α} {n : Nat} {f : Nat → α} (hl : l.length = n) (h : ∀ i, i < n → l[i]? = some (f i)) : l = tab n f := by
 apply List.ext_getElem?
 intro i
 by_cases hi : i < n
 · rw [h i hi, tab_get hi]
 rw [List.getElem?_eq_none (by omega), List.getElem?_eq_none (by rw [tab_len]; omega)]
def Part (sz : Nat) (v v' : Value) (lo hi : Nat) : Prop := ∃ a n cap, v = .slice a n cap ∧ lo ≤ hi ∧ hi ≤ n ∧ v' = .slice (if cap = lo then a else a.map (·.add (lo * sz))) (hi - lo) (cap - lo)
theorem Rd.ofPart {w : World} {sz n lo hi : Nat} {v v' : Value} {cs : List Value} (h : Rd w sz v n cs) (p : Part sz v v' lo hi) : Rd w sz v' (hi - lo) ((cs.drop (lo * sz)).take ((hi - lo) * sz)) := by
 obtain ⟨a, m, cap, rfl, h1, h2, rfl⟩ := p
 obtain ⟨a', cap', h3, h4⟩ := h
 obtain ⟨rfl, rfl, rfl⟩ : a = a' ∧ m = n ∧ cap = cap' := by simpa using h3
 exact (Rd.part ⟨a, cap, rfl, h4⟩ rfl h1 h2).1
theorem RdL.part {α : Type} {enc : α → Value} {w : World} {v v' : Value} {l : List α} {lo hi : Nat} (h : RdL enc w v l) (p : Part 1 v v' lo hi) : RdL enc w v' (cutL lo hi l) := by
 have p' := p
 obtain ⟨a, m, cap, rfl, h1, h2, _⟩ := p'
 obtain ⟨a', cap', h3⟩ := Rd.shape h
 have hm : m = l.length := by simp at h3; exact h3.2.1
 subst hm
 exact RdL.ofPart h1 h2 (Rd.ofPart h p)
theorem Part.bs {sz lo hi : Nat} {v v' : Value} (p : Part sz v v' lo hi) : (bs v').1 = (bs v).1 := by
 obtain ⟨a, m, cap, rfl, h1, h2, rfl⟩ := p
 split
 · cases a <;> rfl
 cases a with
 | none => rfl
 | some ad => simp only [Option.map_some, Sym.bs, Addr.add]; split <;> rfl
section
variable {α : Type} {enc : α → List Value} {sz : Nat} {w : World} {v : Value} {l : List α}
theorem RdF.at (h : RdF enc sz w v l) {k o : Nat} (hk : k < l.length) {u : Value} (hu : (enc l[k])[o]? = some u) : w.cell? ⟨(bs v).1, (bs v).2 + k * sz + o, none⟩ = some u := by
 rw [Nat.add_assoc]; exact h.cell hk o hu
theorem RdF.all (h : RdF enc sz w v l) {k : Nat} (hk : k < l.length) : At w (bs v).1 ((bs v).2 + k * sz) (enc l[k]) := fun j u hu => h.at hk hu
end
section
variable {P : Program} {ops : Array Oper} {Q : Exit → Act → World → Prop} {Qn Lq : Act → Prop} {s : St} {env : Env} {w : World} {rest : List Oper}
variable {d : Nat} {ty : TypeId} {pos : String} {aft : Array Edge}
theorem E.idx1 {α : Type} {enc : α → Value} {l : List α} {t e : TypeId} {x ix : Operand} {kd : IntKind} {i : Int} {v : Value} (k : Nat) (hx : ev env x = some v) (hi : ev env ix = some (.int kd i)) (hR : RdL enc w v l) (hk : i = (k : Int)) (h1 : k < l.length)
  (ht : P.underlying t = some (.slice e)) (hs : (P.info? e).map (·.size) = some 1) (hd : Nat.blt d s.n = true) (h : wpE P ops Q s rest ((d, .pointer (some (el v k))) :: env) w) : wpE P ops Q s (⟨some d, .indexAddr t x ix, ty, pos, aft, none⟩ :: rest) env w := by
 subst hk
 have e0 : (k : Int).toNat * 1 = k := by omega
 refine E.idx hx hi hR ht hs (by omega) (by omega) (by decide) hd ?_
 rw [e0]; exact h
theorem E.idxF {α : Type} {enc : α → List Value} {sz : Nat} {l : List α} {t e : TypeId} {x ix : Operand} {kd : IntKind} {i : Int} {v : Value} (k : Nat) (hx : ev env x = some v) (hi : ev env ix = some (.int kd i)) (hR : RdF enc sz w v l) (hk : i = (k : Int)) (h1 : k < l.length) (hsz : 0 < sz)
  (ht : P.underlying t = some (.slice e)) (hs : (P.info? e).map (·.size) = some sz) (hd : Nat.blt d s.n = true) (h : wpE P ops Q s rest ((d, .pointer (some (el v (k * sz)))) :: env) w) : wpE P ops Q s (⟨some d, .indexAddr t x ix, ty, pos, aft, none⟩ :: rest) env w := by
 subst hk
 have e0 : (k : Int).toNat = k := by omega
 refine E.idx hx hi hR.rd ht hs (by omega) (by omega) hsz hd ?_
 rw [e0]; exact h
theorem Q.idx1 {α : Type} {enc : α → Value} {l : List α} {t e : TypeId} {x ix : Operand} {kd : IntKind} {i : Int} {v : Value} (k : Nat) (hx : ev env x = some v) (hi : ev env ix = some (.int kd i)) (hR : RdL enc w v l) (hk : i = (k : Int)) (h1 : k < l.length)
  (ht : P.underlying t = some (.slice e)) (hs : (P.info? e).map (·.size) = some 1) (hd : Nat.blt d s.n = true) (h : wpQ P ops w Qn s rest ((d, .pointer (some (el v k))) :: env)) : wpQ P ops w Qn s (⟨some d, .indexAddr t x ix, ty, pos, aft, none⟩ :: rest) env := by
 subst hk
 have e0 : (k : Int).toNat * 1 = k := by omega
 refine Q.idx hx hi hR ht hs (by omega) (by omega) (by decide) hd ?_
 rw [e0]; exact h
theorem S.idx1 {α : Type} {enc : α → Value} {l : List α} {t e : TypeId} {x ix : Operand} {kd : IntKind} {i : Int} {v : Value} (k : Nat) (hx : ev env x = some v) (hi : ev env ix = some (.int kd i)) (hR : RdL enc w v l) (hk : i = (k : Int)) (h1 : k < l.length)
  (ht : P.underlying t = some (.slice e)) (hs : (P.info? e).map (·.size) = some 1) (hd : Nat.blt d s.n = true) (h : wpS P ops Lq s rest ((d, .pointer (some (el v k))) :: env) w) : wpS P ops Lq s (⟨some d, .indexAddr t x ix, ty, pos, aft, none⟩ :: rest) env w := by
 subst hk
 have e0 : (k : Int).toNat * 1 = k := by omega
 refine S.idx hx hi hR ht hs (by omega) (by omega) (by decide) hd ?_
 rw [e0]; exact h
theorem Y.idx1 {α : Type} {enc : α → Value} {l : List α} {t e : TypeId} {x ix : Operand} {kd : IntKind} {i : Int} {v : Value} (k : Nat) (hx : ev env x = some v) (hi : ev env ix = some (.int kd i)) (hR : RdL enc w v l) (hk : i = (k : Int)) (h1 : k < l.length)
  (ht : P.underlying t = some (.slice e)) (hs : (P.info? e).map (·.size) = some 1) : Yld P ops s env w ⟨some d, .indexAddr t x ix, ty, pos, aft, none⟩ (.pointer (some (el v k))) := by
 subst hk
 have e0 : (k : Int).toNat * 1 = k := by omega
 have := Y.idx (P := P) (ops := ops) (s := s) (d := d) (ty := ty) (pos := pos) (aft := aft) hx hi hR ht hs (by omega) (by omega) (by decide)
 rw [e0] at this; exact this
theorem retAT {fn : Func} {n t u T : Nat} {ty : TypeId} {b : Nat} {cs : List Value} {v2 : Value} {ds : TypeDesc} {Φ : Value → World → Prop} (hres : fn.results = #[.cell t ty, .tmp u]) (hv : look env t = some (.pointer (some ⟨b, 0, none⟩))) (h2 : look env u = some v2)
  (ht : P.underlying ty = some ds) (hna : (match ds with | .struct _ | .array _ _ => true | _ => false) = true) (hb : Blk w b T cs.toArray) (hs : (P.info? ty).map (·.size) = some cs.length) (h : Φ (.tuple #[.agg cs.toArray, v2]) w) :
  wpX .ret (bodyPost P fn (RetPost Φ)) ⟨n, []⟩ env w :=
 retG (fun a ha => by
  have hp' : a.tmps[t]?.getD undef = .pointer (some ⟨b, 0, none⟩) := by simp [ha.get t _ hv]
  simp [results, hres, hp', asAddr, run_loadVar_row w b T ty cs.toArray (0, 0) ds hb ht hna (by simpa using hs), ha.get u v2 h2]) h
end
section
variable {P : Program} {ops : Array Oper} {Q : Exit → Act → World → Prop} {Qn : Act → Prop} {s : St} {env : Env} {w0 w : World} {S : Nat → Prop} {rs : List Rg} {rest : List Oper}
variable {d : Nat} {ty : TypeId} {pos : String} {aft : Array Edge}
theorem C.heldE {id : Nat} {l : List Oper} (hm : P.follows .mixedOrders = true) (h : ∀ w', Ext w w' → w'.heap = w.heap → wpH P l.toArray Q (Ext w) s l.length (Array.replicate l.length false) env w') : wpC P (.region id l.toArray true) Q s env w := C.held (Ext w) hm h
theorem C.heldM {id : Nat} {l : List Oper} (hM : M w0 S w rs) (is : List Nat) (hn : is.Nodup) (hm : P.follows .mixedOrders = true) (h : ∀ w', M w0 S w' rs → M w0 S w' (is.filterMap (rs[·]?)) → wpH P l.toArray Q (fun w' => M w0 S w' (is.filterMap (rs[·]?))) s l.length (Array.replicate l.length false) env w') : wpC P (.region id l.toArray true) Q s env w :=
 C.held _ hm fun w' hx _ => h w' (hM.ext hx) ((hM.ext hx).pick is hn)
theorem H.takeV {S : World → Prop} {fuel : Nat} {listed : Array Bool} {o : Oper} {v : Value} (i : Nat) (hi : ops[i]? = some o) (hdst : o.dst = some d) (hs : Region.noSelect ops = true) (hf : Region.free .any ops listed i = true) (hr : (Region.ready .any ops listed).contains i = true)
  (hS : S w) (_hv : Yld P ops s env w o v) (hy : ∀ w', S w' → Yld P ops s env w' o v) (hd : Nat.blt d s.n = true) (h : wpH P ops Q S s fuel (listed.setIfInBounds i true) ((d, v) :: env) w) : wpH P ops Q S s (fuel + 1) listed env w := H.take i hi hdst hs hf hr hS hy hd h
theorem H.split {S : World → Prop} {fuel : Nat} {listed : Array Bool} {b : Bool} (t : Nat) (hb : look env t = some (.bool b)) (ht : b = true → wpH P ops Q S s fuel listed ((t, .bool true) :: env) w) (hf : b = false → wpH P ops Q S s fuel listed ((t, .bool false) :: env) w) : wpH P ops Q S s fuel listed env w := by
 cases b with
 | true => exact fun a ha => ht rfl a (ha.sub (Sub.cons hb (Sub.refl env)))
 | false => exact fun a ha => hf rfl a (ha.sub (Sub.cons hb (Sub.refl env)))
theorem S.split {Lq : Act → Prop} {l : List Oper} {b : Bool} (t : Nat) (hb : look env t = some (.bool b)) (ht : b = true → wpS P ops Lq s l ((t, .bool true) :: env) w) (hf : b = false → wpS P ops Lq s l ((t, .bool false) :: env) w) : wpS P ops Lq s l env w := by
 cases b with
 | true => exact fun a ha => ht rfl a (ha.sub (Sub.cons hb (Sub.refl env)))
 | false => exact fun a ha => hf rfl a (ha.sub (Sub.cons hb (Sub.refl env)))
theorem H.two {S : World → Prop} {fuel : Nat} {listed : Array Bool} {oi oj : Oper} (i j : Nat) (hi : ops[i]? = some oi) (hj : ops[j]? = some oj) (hr : Region.ready .any ops listed = [i, j]) (h1 : wpE P ops (HQ P ops Q S fuel (listed.setIfInBounds i true)) s [oi] env w) (h2 : wpE P ops (HQ P ops Q S fuel (listed.setIfInBounds j true)) s [oj] env w) : wpH P ops Q S s (fuel + 1) listed env w := fun a ha => by
  refine wpAnyH_all hr (by simp) fun k hk => ?_
  have hk' : k = i ∨ k = j := by simpa using hk
  rcases hk' with rfl | rfl
  ·
    have h1' := h1 a ha
    unfold wpList at h1'
    unfold wpOp
    simp only [hi]
    split
    · rename_i hw
      rw [if_pos hw] at h1'
      rcases h1' with h1' | ⟨h1', h2'⟩
      · exact .inl (upon_HQ h1')
      exact .inr ⟨h1', let ⟨a, w, h⟩ := h2'; ⟨a, w, h⟩⟩
    rename_i hw
    rw [if_neg hw] at h1'
    exact h1'
  have h1' := h2 a ha
  unfold wpList at h1'
  unfold wpOp
  simp only [hj]
  split
  · rename_i hw
    rw [if_pos hw] at h1'
    rcases h1' with h1' | ⟨h1', h2'⟩
    · exact .inl (upon_HQ h1')
    exact .inr ⟨h1', let ⟨a, w, h⟩ := h2'; ⟨a, w, h⟩⟩
  rename_i hw
  rw [if_neg hw] at h1'
  exact h1'
theorem Q.split {l : List Oper} {b : Bool} (t : Nat) (hb : look env t = some (.bool b)) (ht : b = true → wpQ P ops w Qn s l ((t, .bool true) :: env)) (hf : b = false → wpQ P ops w Qn s l ((t, .bool false) :: env)) : wpQ P ops w Qn s l env := by
 cases b with
 | true => exact fun a ha => ht rfl a (ha.sub (Sub.cons hb (Sub.refl env)))
 | false => exact fun a ha => hf rfl a (ha.sub (Sub.cons hb (Sub.refl env)))
theorem Q.lookup {α : Type} {t kt et : TypeId} {kk : IntKind} {enc : α → Value} {m : List (Int × α)} {r : Nat} {k : Int} {z : Value} {x y : Operand} {ok : Bool} (hx : ev env x = some (.map (some r))) (hy : ev env y = some (.int kk k)) (ht : P.underlying t = some (.map kt et)) (hk : P.underlying kt = some (.int kk)) (hz : (P.info? et).bind (·.zero) = some z) (hm : Mp w r kk enc m)
  (hd : Nat.blt d s.n = true) (h : wpQ P ops w Qn s rest ((d, if ok then .tuple #[((aget m k).map enc).getD z, .bool (aget m k).isSome] else ((aget m k).map enc).getD z) :: env)) : wpQ P ops w Qn s (⟨some d, .lookup t x y ok, ty, pos, aft, none⟩ :: rest) env :=
 Q.op (fun w' hw' a ha => by
  simp only [execOp, ha.ev hx, ha.ev hy]
  rw [Sem.run_bind, run_lookup ht hk hz (hm.ext hw') ok]; rfl) hd h
def putAt (cs : List Value) (o : Nat) (v : List Value) : List Value := cs.take o ++ v ++ cs.drop (o + v.length)
def buildCells : List Value → List Nat → List (Nat × Value) → List Value
 | zs, o :: os, v :: vs => buildCells (putAt zs o v.2.cells.toList) os vs
 | zs, _, _ => zs
theorem E.buildC {t : TypeId} {xs : List (Nat × Operand)} {vs : List (Nat × Value)} {cs : List Value} (zs : List Value) (offs : List Nat) (hx : evp env xs = some vs) (_hcs : buildCells zs offs vs = cs) (hb : (Instr.build t vs.toArray).run P w = .ok (.agg cs.toArray) w)
  (hd : Nat.blt d s.n = true) (h : wpE P ops Q s rest ((d, .agg cs.toArray) :: env) w) : wpE P ops Q s (⟨some d, .build t xs.toArray, ty, pos, aft, none⟩ :: rest) env w := E.build hx hb hd h
theorem Y.buildC {t : TypeId} {xs : List (Nat × Operand)} {vs : List (Nat × Value)} {cs : List Value} (zs : List Value) (offs : List Nat) (hx : evp env xs = some vs) (_hcs : buildCells zs offs vs = cs) (hb : (Instr.build t vs.toArray).run P w = .ok (.agg cs.toArray) w) : Yld P ops s env w ⟨some d, .build t xs.toArray, ty, pos, aft, none⟩ (.agg cs.toArray) := Y.build hx hb
theorem E.mkM {α : Type} {enc : α → Value} {t e : TypeId} {n : Nat} {xs : List (Nat × Operand)} {vs : List (Nat × Value)} (l : List α) (hM : M w0 S w rs) (hx : evp env xs = some vs) (hb : ∀ w, (Instr.buildSlice t n vs.toArray).run P w = .ok (.slice (some ⟨w.heap.size, 0, none⟩) n n) (w.alloc (.cells (l.map enc).toArray e))) (hn : Nat.beq l.length n = true) (hs : Nat.ble n 1000000 = true)
  (hd : Nat.blt d s.n = true) (h : ∀ v w', M w0 S w' (rs ++ [Rg.sl enc e v l]) → wpE P ops Q s rest ((d, v) :: env) w') : wpE P ops Q s (⟨some d, .buildSlice t n xs.toArray, ty, pos, aft, none⟩ :: rest) env w := by
 have hn := Nat.eq_of_beq_eq_true hn
 have hs := Nat.le_of_ble_eq_true hs
 subst hn
 refine E.buildS hx hb hd (h _ _ (hM.new (Ext.new w _) (r := Rg.sl enc e _ l) ⟨by simp, .inr ⟨w.heap.size, l.length, (l.map enc).toArray, rfl, Nat.zero_le _, heap_alloc_new w _, Nat.le_refl _, by unfold maxLen; omega, by simp, by simp [List.take_of_length_le]⟩⟩ (fun k hk => by cases hk; exact Nat.le_refl _)))
end
end Go.Proofs.YtajklleiifhipaaGreatDoor.Sym
namespace Go.Proofs.YtajklleiifhipaaGreatDoor.Sym
section
variable {P : Program} {ops : Array Oper} {Q : Exit → Act → World → Prop} {s : St} {env : Env} {w : World} {d : Nat}
theorem Kt {S : World → Prop} {fuel : Nat} {listed : Array Bool} {o : Oper} {v : Value} (i : Nat) (hi : (ops[i]?, o.dst) = (some o, some d)) (hk : (Region.noSelect ops && (Region.free .any ops listed i && (Region.ready .any ops listed).contains i)) = true)
    (hS : S w) (hy : ∀ w', S w' → Yld P ops s env w' o v) (hd : Nat.blt d s.n = true) (h : wpH P ops Q S s fuel (listed.setIfInBounds i true) ((d, v) :: env) w) : wpH P ops Q S s (fuel + 1) listed env w := by
  injection hi with a b
  rw [Bool.and_eq_true, Bool.and_eq_true] at hk
  exact H.take i a b hk.1 hk.2.1 hk.2.2 hS hy hd h
theorem Ku {S : World → Prop} {fuel : Nat} {listed : Array Bool} {o : Oper} {v : Value} (i : Nat) (hi : (ops[i]?, o.dst) = (some o, some d)) (hk : (Region.noSelect ops && (Region.free .any ops listed i && (Region.ready .any ops listed).contains i)) = true)
    (hS : S w) (_hv : Yld P ops s env w o v) (hy : ∀ w', S w' → Yld P ops s env w' o v) (hd : Nat.blt d s.n = true) (h : wpH P ops Q S s fuel (listed.setIfInBounds i true) ((d, v) :: env) w) : wpH P ops Q S s (fuel + 1) listed env w := Kt i hi hk hS hy hd h
end
end Go.Proofs.YtajklleiifhipaaGreatDoor.Sym
namespace Go.Proofs.YtajklleiifhipaaGreatDoor.Sym
open Go.RowKit
section
variable {P : Program} {ops : Array Oper} {Q : Exit → Act → World → Prop} {Qn Lq : Act → Prop} {s : St} {env : Env} {w0 w : World} {S : Nat → Prop} {rs : List Rg} {rest : List Oper}
variable {d : Nat} {ty : TypeId} {pos : String} {aft : Array Edge}
theorem run_idxS {t : TypeId} {b : ByteArray} {k : Nat} {kd : IntKind} {c : UInt8} (ht : P.underlying t = some .string) (hc : b[k]? = some c) : (Instr.index t (.string b) (.int kd (k : Int))).run P w = .ok (u8 c) w := by
 simp [Instr.index, asIntOf, run_underlying ht, hc]
theorem E.idxS {t : TypeId} {x ix : Operand} {b : ByteArray} {i : Int} {kd : IntKind} (k : Nat) (c : UInt8) (hx : ev env x = some (.string b)) (hi : ev env ix = some (.int kd i)) (hk : i = (k : Int)) (hc : b[k]? = some c) (ht : P.underlying t = some .string) (hd : Nat.blt d s.n = true)
  (h : wpE P ops Q s rest ((d, u8 c) :: env) w) : wpE P ops Q s (⟨some d, .index t x ix, ty, pos, aft, none⟩ :: rest) env w := by
 subst hk
 exact E.op (fun a ha => by simp only [execOp, ha.ev hx, ha.ev hi]; rw [Sem.run_bind, run_idxS ht hc]; rfl) hd h
theorem E.addN {t t2 : TypeId} {x y : Operand} {a b : Nat} (hx : ev env x = some (.int .i64 (a : Int))) (hy : ev env y = some (.int .i64 (b : Int))) (hr : a + b ≤ 9223372036854775807) (hd : Nat.blt d s.n = true) (h : wpE P ops Q s rest ((d, .int .i64 ((a + b : Nat) : Int)) :: env) w) : wpE P ops Q s (⟨some d, .binOp .add t x y t2, ty, pos, aft, none⟩ :: rest) env w :=
 E.add hx hy (by rw [← Int.natCast_add]; omega) hd (by rw [Int.natCast_add] at h; exact h)
theorem E.mulN {t t2 : TypeId} {x y : Operand} {a b : Nat} (hx : ev env x = some (.int .i64 (a : Int))) (hy : ev env y = some (.int .i64 (b : Int))) (hr : a * b ≤ 9223372036854775807) (hd : Nat.blt d s.n = true) (h : wpE P ops Q s rest ((d, .int .i64 ((a * b : Nat) : Int)) :: env) w) : wpE P ops Q s (⟨some d, .binOp .mul t x y t2, ty, pos, aft, none⟩ :: rest) env w :=
 E.mul hx hy (by rw [← Int.natCast_mul]; omega) hd (by rw [Int.natCast_mul] at h; exact h)
theorem E.subN {t t2 : TypeId} {x y : Operand} {a b : Nat} (hx : ev env x = some (.int .i64 (a : Int))) (hy : ev env y = some (.int .i64 (b : Int))) (hr : b ≤ a ∧ a ≤ 9223372036854775807) (hd : Nat.blt d s.n = true) (h : wpE P ops Q s rest ((d, .int .i64 ((a - b : Nat) : Int)) :: env) w) : wpE P ops Q s (⟨some d, .binOp .sub t x y t2, ty, pos, aft, none⟩ :: rest) env w :=
 E.sub' hx hy (by omega) hd (by rw [show ((a - b : Nat) : Int) = (a : Int) - (b : Int) by omega] at h; exact h)
theorem S.addN {t t2 : TypeId} {x y : Operand} {a b : Nat} (hx : ev env x = some (.int .i64 (a : Int))) (hy : ev env y = some (.int .i64 (b : Int))) (hr : a + b ≤ 9223372036854775807) (hd : Nat.blt d s.n = true) (h : wpS P ops Lq s rest ((d, .int .i64 ((a + b : Nat) : Int)) :: env) w) : wpS P ops Lq s (⟨some d, .binOp .add t x y t2, ty, pos, aft, none⟩ :: rest) env w :=
 S.add hx hy (by rw [← Int.natCast_add]; omega) hd (by rw [Int.natCast_add] at h; exact h)
theorem S.subN {t t2 : TypeId} {x y : Operand} {a b : Nat} (hx : ev env x = some (.int .i64 (a : Int))) (hy : ev env y = some (.int .i64 (b : Int))) (hr : b ≤ a ∧ a ≤ 9223372036854775807) (hd : Nat.blt d s.n = true) (h : wpS P ops Lq s rest ((d, .int .i64 ((a - b : Nat) : Int)) :: env) w) : wpS P ops Lq s (⟨some d, .binOp .sub t x y t2, ty, pos, aft, none⟩ :: rest) env w :=
 S.sub' hx hy (by omega) hd (by rw [show ((a - b : Nat) : Int) = (a : Int) - (b : Int) by omega] at h; exact h)
theorem Q.addN {t t2 : TypeId} {x y : Operand} {a b : Nat} (hx : ev env x = some (.int .i64 (a : Int))) (hy : ev env y = some (.int .i64 (b : Int))) (hr : a + b ≤ 9223372036854775807) (hd : Nat.blt d s.n = true) (h : wpQ P ops w Qn s rest ((d, .int .i64 ((a + b : Nat) : Int)) :: env)) : wpQ P ops w Qn s (⟨some d, .binOp .add t x y t2, ty, pos, aft, none⟩ :: rest) env :=
 Q.add hx hy (by rw [← Int.natCast_add]; omega) hd (by rw [Int.natCast_add] at h; exact h)
theorem Q.mulN {t t2 : TypeId} {x y : Operand} {a b : Nat} (hx : ev env x = some (.int .i64 (a : Int))) (hy : ev env y = some (.int .i64 (b : Int))) (hr : a * b ≤ 9223372036854775807) (hd : Nat.blt d s.n = true) (h : wpQ P ops w Qn s rest ((d, .int .i64 ((a * b : Nat) : Int)) :: env)) : wpQ P ops w Qn s (⟨some d, .binOp .mul t x y t2, ty, pos, aft, none⟩ :: rest) env :=
 Q.mul hx hy (by rw [← Int.natCast_mul]; omega) hd (by rw [Int.natCast_mul] at h; exact h)
theorem Q.subN {t t2 : TypeId} {x y : Operand} {a b : Nat} (hx : ev env x = some (.int .i64 (a : Int))) (hy : ev env y = some (.int .i64 (b : Int))) (hr : b ≤ a ∧ a ≤ 9223372036854775807) (hd : Nat.blt d s.n = true) (h : wpQ P ops w Qn s rest ((d, .int .i64 ((a - b : Nat) : Int)) :: env)) : wpQ P ops w Qn s (⟨some d, .binOp .sub t x y t2, ty, pos, aft, none⟩ :: rest) env :=
 Q.sub' hx hy (by omega) hd (by rw [show ((a - b : Nat) : Int) = (a : Int) - (b : Int) by omega] at h; exact h)
theorem Y.addN {t t2 : TypeId} {x y : Operand} {a b : Nat} (hx : ev env x = some (.int .i64 (a : Int))) (hy : ev env y = some (.int .i64 (b : Int))) (hr : a + b ≤ 9223372036854775807) : Yld P ops s env w ⟨some d, .binOp .add t x y t2, ty, pos, aft, none⟩ (.int .i64 ((a + b : Nat) : Int)) := by
 rw [Int.natCast_add]
 exact Y.add hx hy (by rw [← Int.natCast_add]; omega)
theorem Y.mulN {t t2 : TypeId} {x y : Operand} {a b : Nat} (hx : ev env x = some (.int .i64 (a : Int))) (hy : ev env y = some (.int .i64 (b : Int))) (hr : a * b ≤ 9223372036854775807) : Yld P ops s env w ⟨some d, .binOp .mul t x y t2, ty, pos, aft, none⟩ (.int .i64 ((a * b : Nat) : Int)) := by
 rw [Int.natCast_mul]
 exact Y.mul hx hy (by rw [← Int.natCast_mul]; omega)
theorem Y.subN {t t2 : TypeId} {x y : Operand} {a b : Nat} (hx : ev env x = some (.int .i64 (a : Int))) (hy : ev env y = some (.int .i64 (b : Int))) (hr : b ≤ a ∧ a ≤ 9223372036854775807) : Yld P ops s env w ⟨some d, .binOp .sub t x y t2, ty, pos, aft, none⟩ (.int .i64 ((a - b : Nat) : Int)) := by
 rw [show ((a - b : Nat) : Int) = (a : Int) - (b : Int) by omega]
 exact Y.sub' hx hy (by omega)
theorem Q.lookup2 {α : Type} {t kt et : TypeId} {kk : IntKind} {enc : α → Value} {m : List (Int × α)} {r : Nat} {k : Int} {z : Value} {x y : Operand} (hx : ev env x = some (.map (some r))) (hy : ev env y = some (.int kk k)) (ht : P.underlying t = some (.map kt et)) (hk : P.underlying kt = some (.int kk)) (hz : (P.info? et).bind (·.zero) = some z) (hm : Mp w r kk enc m)
  (hd : Nat.blt d s.n = true) (h : wpQ P ops w Qn s rest ((d, .tuple #[((aget m k).map enc).getD z, .bool (aget m k).isSome]) :: env)) : wpQ P ops w Qn s (⟨some d, .lookup t x y true, ty, pos, aft, none⟩ :: rest) env := Q.lookup hx hy ht hk hz hm hd h
end
end Go.Proofs.YtajklleiifhipaaGreatDoor.Sym
namespace Go.Proofs.YtajklleiifhipaaGreatDoor.Sym
open Go.RowKit
theorem look_val {env : Env} {d : Nat} {k : IntKind} {x y : Int} (h : look env d = some (.int k x)) (e : x = y) : look env d = some (.int k y) := by rw [h, e]
theorem look_eq {env : Env} {d : Nat} {x y : Value} (h : look env d = some x) (e : x = y) : look env d = some y := by rw [h, e]
abbrev str (l : List UInt8) : Value := .string ⟨l.toArray⟩
section
variable {P : Program} {ops : Array Oper} {Q : Exit → Act → World → Prop} {Qn Lq : Act → Prop} {s : St} {env : Env} {w0 w : World} {S : Nat → Prop} {rs : List Rg} {rest : List Oper}
variable {d : Nat} {ty : TypeId} {pos : String} {aft : Array Edge}
theorem run_bstr {src dst e : TypeId} {v : Value} {l : List UInt8} (hs : P.underlying src = some (.slice e)) (he : P.underlying e = some (.int .u8)) (hd : P.underlying dst = some .string) (h : RdL u8 w v l) : (convert src dst v).run P w = .ok (str l) w := by
 obtain ⟨a, cap, rfl, _, _, h4, h5, h6⟩ := h
 cases l with
 | nil =>
  cases a with
  | none => rw [run_convert_bytes_string w src dst e none _ cap hs he hd]; rfl
  | some a => exact run_convert_bytes_back w src dst e a cap [] hs he hd (fun j hj => by simp at hj)
 | cons c l =>
  obtain ⟨b, off, rfl⟩ := h5 (by simp)
  exact run_convert_bytes_back w src dst e ⟨b, off, none⟩ cap (c :: l) hs he hd (fun j hj => by
   have := h6 j (u8 (c :: l)[j]) (by rw [List.getElem?_map, List.getElem?_eq_getElem hj]; rfl)
   rw [show (Addr.add ⟨b, off, none⟩ j) = ⟨b, off + j, none⟩ from by unfold Addr.add; split <;> simp_all]; exact this)
theorem E.bstr {src dst e : TypeId} {x : Operand} {v : Value} {l : List UInt8} (hx : ev env x = some v) (h : RdL u8 w v l) (hs : P.underlying src = some (.slice e)) (he : P.underlying e = some (.int .u8)) (ht : P.underlying dst = some .string) (hd : Nat.blt d s.n = true)
  (k : wpE P ops Q s rest ((d, str l) :: env) w) : wpE P ops Q s (⟨some d, .convert src dst x, ty, pos, aft, none⟩ :: rest) env w :=
 E.op (fun a ha => by simp only [execOp, ha.ev hx]; rw [Sem.run_bind, run_bstr hs he ht h]; rfl) hd k
theorem Q.bstr {src dst e : TypeId} {x : Operand} {v : Value} {l : List UInt8} (hx : ev env x = some v) (h : RdL u8 w v l) (hs : P.underlying src = some (.slice e)) (he : P.underlying e = some (.int .u8)) (ht : P.underlying dst = some .string) (hd : Nat.blt d s.n = true)
  (k : wpQ P ops w Qn s rest ((d, str l) :: env)) : wpQ P ops w Qn s (⟨some d, .convert src dst x, ty, pos, aft, none⟩ :: rest) env :=
 Q.op (fun w' hw' a ha => by simp only [execOp, ha.ev hx]; rw [Sem.run_bind, run_bstr hs he ht (h.ext hw')]; rfl) hd k
theorem Y.bstr {src dst e : TypeId} {x : Operand} {v : Value} {l : List UInt8} (hx : ev env x = some v) (h : RdL u8 w v l) (hs : P.underlying src = some (.slice e)) (he : P.underlying e = some (.int .u8)) (ht : P.underlying dst = some .string) : Yld P ops s env w ⟨some d, .convert src dst x, ty, pos, aft, none⟩ (str l) :=
 Yld.of (fun a ha => by simp only [execOp, ha.ev hx]; rw [Sem.run_bind, run_bstr hs he ht h]; rfl)
theorem str_eq (l m : List UInt8) : ((ByteArray.mk l.toArray).toList == (ByteArray.mk m.toArray).toList) = decide (l = m) := by
 have e : ∀ l : List UInt8, (ByteArray.mk l.toArray).toList = l := fun l => by
  rw [ByteArray.toList_eq]
 rw [e, e, Bool.eq_iff_iff]; simp
theorem run_eqstr {t : TypeId} {x y : Operand} {l m : List UInt8} (op : BinOp) (ho : op = .eql ∨ op = .neq) : (do eqGuard op t x y (str l) (str m); binOp op t (str l) (str m) : Sem Value).run P w = .ok (.bool (if op = .eql then decide (l = m) else decide (l ≠ m))) w := by
  rcases ho with rfl | rfl
  · have := str_eq l m
    simp only [eqGuard, binOp_string_eql, this]; rfl
  have := str_eq l m
  have e : decide (l ≠ m) = !decide (l = m) := by simp
  simp [eqGuard, binOp, Op.stringOp, this, e]
  rw [Bool.eq_iff_iff]; simp
theorem E.eqstr {t t2 : TypeId} {x y : Operand} {l m : List UInt8} (hx : ev env x = some (str l)) (hy : ev env y = some (str m)) (hd : Nat.blt d s.n = true) (h : wpE P ops Q s rest ((d, .bool (decide (l = m))) :: env) w) : wpE P ops Q s (⟨some d, .binOp .eql t x y t2, ty, pos, aft, none⟩ :: rest) env w :=
 E.op (fun a ha => by
  have := run_eqstr (P := P) (w := w) (t := t) (x := x) (y := y) (l := l) (m := m) .eql (.inl rfl)
  simp only [execOp, ha.ev hx, ha.ev hy]
  rw [Sem.run_bind, this]; rfl) hd h
theorem E.nestr {t t2 : TypeId} {x y : Operand} {l m : List UInt8} (hx : ev env x = some (str l)) (hy : ev env y = some (str m)) (hd : Nat.blt d s.n = true) (h : wpE P ops Q s rest ((d, .bool (decide (l ≠ m))) :: env) w) : wpE P ops Q s (⟨some d, .binOp .neq t x y t2, ty, pos, aft, none⟩ :: rest) env w :=
 E.op (fun a ha => by
  have := run_eqstr (P := P) (w := w) (t := t) (x := x) (y := y) (l := l) (m := m) .neq (.inr rfl)
  simp only [execOp, ha.ev hx, ha.ev hy]
  rw [Sem.run_bind, this]; rfl) hd h
theorem Y.nestr {t t2 : TypeId} {x y : Operand} {l m : List UInt8} (hx : ev env x = some (str l)) (hy : ev env y = some (str m)) : Yld P ops s env w ⟨some d, .binOp .neq t x y t2, ty, pos, aft, none⟩ (.bool (decide (l ≠ m))) :=
 Yld.of (fun a ha => by
  have := run_eqstr (P := P) (w := w) (t := t) (x := x) (y := y) (l := l) (m := m) .neq (.inr rfl)
  simp only [execOp, ha.ev hx, ha.ev hy]
  rw [Sem.run_bind, this]; rfl)
end
end Go.Proofs.YtajklleiifhipaaGreatDoor.Sym
