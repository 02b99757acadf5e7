/- Texts of the claim, laid together: Sym, Sym2. -/
import Derived.WalkKit
import Derived.WalkSpells
import Derived.WalkLawsBesides
import Derived.Orders
import Derived.Deep.Quiet
/- A walk by named slots: what is known of a frame is a short list of slots with their values; one lemma for each kind of operation and of code. For whatever program. -/
namespace Go.Proofs.YtcmgbjmcklfkcaaDoor.Sym
set_option linter.unusedSimpArgs false
set_option linter.unusedVariables false
open Go.RowKit

abbrev Env := List (Nat × Value)
def look : Env → Nat → Option Value
  | [], _ => none
  | (d, v) :: r, j => bif Nat.beq d j then some v else look r j
def ev (env : Env) : Operand → Option Value
  | .tmp t => look env t
  | .const v => some v
  | .global g => some (.pointer (some ⟨g, 0, none⟩))
  | .func f => some (.func (.func f) #[] #[])
def evl (env : Env) : List Operand → Option (List Value)
  | [] => some []
  | x :: r => match ev env x, evl env r with
    | some v, some l => some (v :: l)
    | _, _ => none
/-- the frame's size and its deferred calls -/
structure St where
  n : Nat
  ds : List Deferred
structure Sat (s : St) (a : Act) (env : Env) : Prop where
  defers : a.defers = s.ds
  size : a.tmps.size = s.n
  get : ∀ i v, look env i = some v → a.tmps[i]? = some v
theorem Sat.ev {s : St} {a : Act} {env : Env} (h : Sat s a env) {x : Operand} {v : Value} (hx : Sym.ev env x = some v) : a.eval x = v := by
  cases x with
  | tmp t => have := h.get t v hx; simp [Act.eval, this]
  | const u => simpa [Sym.ev, Act.eval] using hx
  | global g => simpa [Sym.ev, Act.eval] using hx
  | func f => simpa [Sym.ev, Act.eval] using hx
theorem Sat.evl {s : St} {a : Act} {env : Env} (h : Sat s a env) : ∀ {xs : List Operand} {vs : List Value}, Sym.evl env xs = some vs → xs.map a.eval = vs
  | [], vs, hx => by simp [Sym.evl] at hx; simp [hx]
  | x :: r, vs, hx => by
    unfold Sym.evl at hx
    cases h1 : Sym.ev env x with
    | none => simp [h1] at hx
    | some v =>
      cases h2 : Sym.evl env r with
      | none => simp [h1, h2] at hx
      | some l =>
        simp [h1, h2] at hx
        subst hx
        simp [h.ev h1, h.evl h2]
theorem look_cons (d : Nat) (v : Value) (env : Env) (i : Nat) : look ((d, v) :: env) i = if d = i then some v else look env i := by
  show (bif Nat.beq d i then some v else look env i) = _
  by_cases h : d = i
  · subst h; simp
  · have : Nat.beq d i = false := by
      cases hb : Nat.beq d i with
      | false => rfl
      | true => exact absurd (Nat.eq_of_beq_eq_true hb) h
    simp [this, h]
theorem Sat.put {s : St} {a : Act} {env : Env} (h : Sat s a env) (d : Nat) (v : Value) (hd : Nat.blt d s.n = true) : Sat s (a.put (some d) v) ((d, v) :: env) := by
  have hd' : d < a.tmps.size := by rw [h.size]; simpa [Nat.blt_eq] using hd
  refine ⟨h.defers, by simpa [Act.put] using h.size, fun i u hu => ?_⟩
  rw [look_cons] at hu
  by_cases e : d = i
  · subst e
    simp at hu
    subst hu
    simp [Act.put, hd']
  · simp [e] at hu
    simp [Act.put, e, h.get i u hu]
theorem Sat.put0 {s : St} {a : Act} {env : Env} (h : Sat s a env) (v : Value) : Sat s (a.put none v) env := h
/-- what one list of slots says another one says, too -/
def Sub (env' env : Env) : Prop := ∀ i v, look env' i = some v → look env i = some v
theorem Sub.nil (env : Env) : Sub [] env := fun _ _ h => by cases h
theorem Sub.cons {d : Nat} {v : Value} {env' env : Env} (h : look env d = some v) (r : Sub env' env) : Sub ((d, v) :: env') env := fun i u hu => by
  rw [look_cons] at hu
  by_cases e : d = i
  · subst e; simp at hu; subst hu; exact h
  · simp [e] at hu; exact r i u hu
theorem Sub.refl (env : Env) : Sub env env := fun _ _ h => h
theorem Sat.sub {s : St} {a : Act} {env env' : Env} (h : Sat s a env) (r : Sub env' env) : Sat s a env' := ⟨h.defers, h.size, fun i v hi => h.get i v (r i v hi)⟩

def wpE (P : Program) (ops : Array Oper) (Q : Exit → Act → World → Prop) (s : St) (l : List Oper) (env : Env) (w : World) : Prop := ∀ a, Sat s a env → wpList P ops Q l a w
def wpC (P : Program) (c : Code) (Q : Exit → Act → World → Prop) (s : St) (env : Env) (w : World) : Prop := ∀ a, Sat s a env → c.wp P Q a w
def wpX (e : Exit) (Q : Exit → Act → World → Prop) (s : St) (env : Env) (w : World) : Prop := ∀ a, Sat s a env → Q e a w

/-- a function with a body of its own -/
def Callable (P : Program) (f : FuncId) : Prop := ∃ fn, P.funcs[f]? = some fn ∧ (fn.name == "runtime.NumGoroutine") = false ∧ fn.body.isNone = false
def RetPost (Φ : Value → World → Prop) (e : Ending) (w' : World) : Prop := ∃ v, e = .returned v ∧ Φ v w'
/-- a call that returns -/
def Ret (P : Program) (f : FuncId) (args : Array Value) (w : World) (Φ : Value → World → Prop) : Prop := Callable P f ∧ Calls P f args w (RetPost Φ)
theorem Ret.mono {P : Program} {f : FuncId} {args : Array Value} {w : World} {Φ Ψ : Value → World → Prop} (h : Ret P f args w Φ) (k : ∀ v w', Φ v w' → Ψ v w') : Ret P f args w Ψ :=
  ⟨h.1, Calls.mono h.2 fun _ _ ⟨v, he, hv⟩ => ⟨v, he, k v _ hv⟩⟩
theorem run_callable {P : Program} {f : FuncId} (h : Callable P f) (args : Array Value) (w : World) : (callFunc f args).run P w = .ok (.enter f args) w := by
  obtain ⟨fn, hf, hn, hb⟩ := h
  have hb' : ¬ fn.body = none := by intro e; rw [e] at hb; cases hb
  have hn' : ¬ fn.name = "runtime.NumGoroutine" := by simpa using hn
  simp [callFunc, program, Sem.run, hf, hn', hb']

section
variable {P : Program} {ops : Array Oper} {Q : Exit → Act → World → Prop} {s : St} {env : Env} {w : World} {rest : List Oper}
variable {d : Nat} {ty : TypeId} {pos : String} {aft : Array Edge}

theorem E.nil (h : wpX .normal Q s env w) : wpE P ops Q s [] env w := fun a ha => wpList_nil (h a ha)
theorem E.sub {l : List Oper} {env' : Env} (r : Sub env' env) (h : wpE P ops Q s l env' w) : wpE P ops Q s l env w := fun a ha => h a (ha.sub r)
theorem E.op {op : Op} {v : Value} {w' : World} (hrun : ∀ a, Sat s a env → (execOp a.eval ⟨some d, op, ty, pos, aft, none⟩).run P w = .ok (.value v) w')
    (hd : Nat.blt d s.n = true) (h : wpE P ops Q s rest ((d, v) :: env) w') : wpE P ops Q s (⟨some d, op, ty, pos, aft, none⟩ :: rest) env w := fun a ha =>
  wpList_plain rfl fun K hK => by
    unfold Oper.wp
    rw [hrun a ha]
    exact hK _ _ (h _ (ha.put d v hd))
theorem E.op0 {op : Op} {w' : World} (hrun : ∀ a, Sat s a env → (execOp a.eval ⟨none, op, ty, pos, aft, none⟩).run P w = .ok .skip w')
    (h : wpE P ops Q s rest env w') : wpE P ops Q s (⟨none, op, ty, pos, aft, none⟩ :: rest) env w := fun a ha =>
  wpList_plain rfl fun K hK => by
    unfold Oper.wp
    rw [hrun a ha]
    exact hK _ _ (h _ ha)
theorem E.op0v {op : Op} {w' : World} {v : Value} (hrun : ∀ a, Sat s a env → (execOp a.eval ⟨none, op, ty, pos, aft, none⟩).run P w = .ok (.value v) w')
    (h : wpE P ops Q s rest env w') : wpE P ops Q s (⟨none, op, ty, pos, aft, none⟩ :: rest) env w := fun a ha =>
  wpList_plain rfl fun K hK => by
    unfold Oper.wp
    rw [hrun a ha]
    exact hK _ _ (h _ ha)
/-- the guard says yes -/
theorem E.on {dst : Option Nat} {op : Op} {j sl : Nat} {b : Bool} (hs : (ops[j]?).bind (·.dst) = some sl) (hb : look env sl = some (.bool b))
    (h : wpE P ops Q s (⟨dst, op, ty, pos, aft, none⟩ :: rest) env w) : wpE P ops Q s (⟨dst, op, ty, pos, aft, some (j, b)⟩ :: rest) env w := fun a ha => by
  have h1 := h a ha
  unfold wpList at h1 ⊢
  have hy : yielded ops a.tmps j = some b := by simp [yielded, hs, ha.get sl _ hb]
  simp only [Region.wanted, hy, beq_self_eq_true, if_true] at h1 ⊢
  exact h1
/-- the guard says no -/
theorem E.off {op : Op} {j sl : Nat} {b c : Bool} (hs : (ops[j]?).bind (·.dst) = some sl) (hb : look env sl = some (.bool c)) (hne : (c == b) = false) (hd : Nat.blt d s.n = true)
    (h : wpE P ops Q s rest ((d, undef) :: env) w) : wpE P ops Q s (⟨some d, op, ty, pos, aft, some (j, b)⟩ :: rest) env w := fun a ha => by
  have hy : yielded ops a.tmps j = some c := by simp [yielded, hs, ha.get sl _ hb]
  unfold wpList
  simp only [Region.wanted, hy]
  have : (some c == some b) = false := by simpa using hne
  simp only [this]
  exact h _ (ha.put d undef hd)
/-- its own guard was not even asked: the guard's slot holds nothing -/
theorem E.offu {op : Op} {j sl : Nat} {b : Bool} (hs : (ops[j]?).bind (·.dst) = some sl) (hb : look env sl = some undef) (hd : Nat.blt d s.n = true)
    (h : wpE P ops Q s rest ((d, undef) :: env) w) : wpE P ops Q s (⟨some d, op, ty, pos, aft, some (j, b)⟩ :: rest) env w := fun a ha => by
  have hy : yielded ops a.tmps j = none := by simp [yielded, hs, ha.get sl _ hb, undef]
  unfold wpList
  simp only [Region.wanted, hy]
  exact h _ (ha.put d undef hd)

theorem E.mv {x : Operand} {v : Value} (hx : ev env x = some v) (hd : Nat.blt d s.n = true) (h : wpE P ops Q s rest ((d, v) :: env) w) : wpE P ops Q s (⟨some d, .move x, ty, pos, aft, none⟩ :: rest) env w :=
  E.op (fun a ha => by simp [execOp, ha.ev hx]) hd h
theorem E.asg {x : Operand} {v : Value} (hx : ev env x = some v) (hd : Nat.blt d s.n = true) (h : wpE P ops Q s rest ((d, v) :: env) w) : wpE P ops Q s (⟨some d, .assign x, ty, pos, aft, none⟩ :: rest) env w :=
  E.op (fun a ha => by simp [execOp, ha.ev hx]) hd h
theorem E.pick {c x y : Operand} {b : Bool} {v : Value} (hc : ev env c = some (.bool b)) (hx : (bif b then ev env x else ev env y) = some v) (hd : Nat.blt d s.n = true) (h : wpE P ops Q s rest ((d, v) :: env) w) : wpE P ops Q s (⟨some d, .pick c x y, ty, pos, aft, none⟩ :: rest) env w :=
  E.op (fun a ha => by cases b <;> simp at hx <;> simp [execOp, ha.ev hc, ha.ev hx, asBool]) hd h

/-- arithmetic, bits and comparisons on two integers of one kind -/
def iop (op : BinOp) (k : IntKind) (a b : Int) : Option Value :=
  match op with
  | .add => some (.int k (k.wrap (a + b)))
  | .sub => some (.int k (k.wrap (a - b)))
  | .mul => some (.int k (k.wrap (a * b)))
  | .and => some (.int k (bits .and k a b))
  | .or => some (.int k (bits .or k a b))
  | .xor => some (.int k (bits .xor k a b))
  | .andNot => some (.int k (bits .andNot k a b))
  | .eql => some (.bool (decide (a = b)))
  | .neq => some (.bool (decide (a ≠ b)))
  | .lss => some (.bool (decide (a < b)))
  | .leq => some (.bool (decide (a ≤ b)))
  | .gtr => some (.bool (decide (b < a)))
  | .geq => some (.bool (decide (b ≤ a)))
  | _ => none
theorem run_iop {op : BinOp} {k : IntKind} {a b : Int} {v : Value} (t : TypeId) (x y : Operand) (h : iop op k a b = some v) (w : World) :
    (do eqGuard op t x y (.int k a) (.int k b); binOp op t (.int k a) (.int k b) : Sem Value).run P w = .ok v w := by
  cases op <;> simp [iop] at h <;> subst h <;> simp [eqGuard, binOp, Op.intArith, Op.intCmp, Op.intBits, bits] <;> try (first | rfl | (rw [Bool.eq_iff_iff]; simp))
theorem E.bin {op : BinOp} {t t2 : TypeId} {x y : Operand} {k : IntKind} {a b : Int} {v : Value} (hx : ev env x = some (.int k a)) (hy : ev env y = some (.int k b)) (hv : iop op k a b = some v)
    (hd : Nat.blt d s.n = true) (h : wpE P ops Q s rest ((d, v) :: env) w) : wpE P ops Q s (⟨some d, .binOp op t x y t2, ty, pos, aft, none⟩ :: rest) env w :=
  E.op (fun a ha => by
    have := run_iop (P := P) t x y hv w
    simp only [execOp, ha.ev hx, ha.ev hy]
    rw [Sem.run_bind, this]; rfl) hd h

/-- a call of a Go function, by its contract -/
theorem E.call {f : FuncId} {xs : List Operand} {ats : Array TypeId} {vs : List Value} {Φ : Value → World → Prop} (hx : evl env xs = some vs) (hd : Nat.blt d s.n = true) (hc : Ret P f vs.toArray w Φ)
    (h : ∀ v w', Φ v w' → wpE P ops Q s rest ((d, v) :: env) w') : wpE P ops Q s (⟨some d, .call ⟨.value (.func f), xs.toArray, ats⟩, ty, pos, aft, none⟩ :: rest) env w := fun a ha =>
  wpList_plain rfl fun K hK => by
    unfold Oper.wp
    have hr : (execOp a.eval ⟨some d, .call ⟨.value (.func f), xs.toArray, ats⟩, ty, pos, aft, none⟩).run P w = .ok (.enter f vs.toArray) w := by
      simp [execOp, resolve, invoke, Act.eval, Deferred.ofValue, ha.evl hx, run_callable hc.1]
    rw [hr, Oper.upon_enter]
    refine Calls.mono hc.2 ?_
    rintro e w' ⟨v, rfl, hv⟩
    exact hK _ _ (h v w' hv _ (ha.put d v hd))
theorem E.call0 {f : FuncId} {xs : List Operand} {ats : Array TypeId} {vs : List Value} {Φ : Value → World → Prop} (hx : evl env xs = some vs) (hc : Ret P f vs.toArray w Φ)
    (h : ∀ v w', Φ v w' → wpE P ops Q s rest env w') : wpE P ops Q s (⟨none, .call ⟨.value (.func f), xs.toArray, ats⟩, ty, pos, aft, none⟩ :: rest) env w := fun a ha =>
  wpList_plain rfl fun K hK => by
    unfold Oper.wp
    have hr : (execOp a.eval ⟨none, .call ⟨.value (.func f), xs.toArray, ats⟩, ty, pos, aft, none⟩).run P w = .ok (.enter f vs.toArray) w := by
      simp [execOp, resolve, invoke, Act.eval, Deferred.ofValue, ha.evl hx, run_callable hc.1]
    rw [hr, Oper.upon_enter]
    refine Calls.mono hc.2 ?_
    rintro e w' ⟨v, rfl, hv⟩
    exact hK _ _ (h v w' hv _ ha)
end

/-! code -/
def Join {G : Type} (s : St) (E : G → Env) (φ : G → World → Prop) (a : Act) (w : World) : Prop := ∃ g, Sat s a (E g) ∧ φ g w
def Again {G : Type} (s : St) (E : G → Env) (φ : G → World → Prop) (μ : G → Nat) (m : Nat) (a : Act) (w : World) : Prop := ∃ g, Sat s a (E g) ∧ φ g w ∧ μ g < m
section
variable {P : Program} {Q : Exit → Act → World → Prop} {s : St} {env : Env} {w : World}

theorem C.sub {c : Code} {env' : Env} (r : Sub env' env) (h : wpC P c Q s env' w) : wpC P c Q s env w := fun a ha => h a (ha.sub r)
theorem C.region {id : Nat} {l : List Oper} (h : wpE P l.toArray Q s l env w) : wpC P (.region id l.toArray false) Q s env w := fun a ha => wp_region_lit (h a ha)
theorem C.seq {x y : Code} (h : wpC P x (Exit.then (y.wp P Q) Q) s env w) : wpC P (.seq x y) Q s env w := fun a ha => wp_seq (h a ha)
theorem C.block {id : Nat} {c : Code} (h : wpC P c (Exit.inBlock id Q) s env w) : wpC P (.block id c) Q s env w := fun a ha => wp_block (h a ha)
theorem C.skip (h : wpX .normal Q s env w) : wpC P .skip Q s env w := fun a ha => wp_skip (h a ha)
theorem C.ret (h : wpX .ret Q s env w) : wpC P .ret Q s env w := fun a ha => wp_ret (h a ha)
theorem C.exit {id : Nat} (h : wpX (.exit id) Q s env w) : wpC P (.exit id) Q s env w := fun a ha => wp_exit (h a ha)
theorem C.label {id : Nat} (h : wpX .normal Q s env w) : wpC P (.label id) Q s env w := fun a ha => wp_label (h a ha)
theorem C.cond {c : Operand} {x y : Code} {b : Bool} (hc : ev env c = some (.bool b)) (ht : b = true → wpC P x Q s env w) (hf : b = false → wpC P y Q s env w) : wpC P (.cond c x y) Q s env w := fun a ha =>
  wp_cond_split (ha.ev hc) (fun h => ht h a ha) (fun h => hf h a ha)
/-- a test of a decidable proposition -/
theorem C.cond' {c : Operand} {x y : Code} {p : Prop} [Decidable p] (hc : ev env c = some (.bool (decide p))) (ht : p → wpC P x Q s env w) (hf : ¬ p → wpC P y Q s env w) : wpC P (.cond c x y) Q s env w :=
  C.cond hc (fun h => ht (of_decide_eq_true h)) (fun h => hf (of_decide_eq_false h))
theorem C.condT {c : Operand} {x y : Code} (hc : ev env c = some (.bool true)) (ht : wpC P x Q s env w) : wpC P (.cond c x y) Q s env w := C.cond hc (fun _ => ht) (fun h => by cases h)
theorem C.condF {c : Operand} {x y : Code} (hc : ev env c = some (.bool false)) (hf : wpC P y Q s env w) : wpC P (.cond c x y) Q s env w := C.cond hc (fun h => by cases h) (fun _ => hf)
/-- the ways through x meet again ahead of y -/
theorem C.cut {G : Type} (E : G → Env) (φ : G → World → Prop) {x y : Code} (hx : wpC P x (Exit.then (Join s E φ) Q) s env w) (hy : ∀ g w, φ g w → wpC P y Q s (E g) w) : wpC P (.seq x y) Q s env w := fun a ha =>
  wp_seq (wp_mono (hx a ha) fun e a' w' h => by
    cases e <;> try exact h
    obtain ⟨g, h1, h2⟩ := h
    exact hy g w' h2 a' h1)
theorem C.loop {G : Type} (E : G → Env) (φ : G → World → Prop) (μ : G → Nat) (g0 : G) {c : Code} (h0 : Sub (E g0) env) (hφ : φ g0 w)
    (round : ∀ g w, φ g w → wpC P c (Exit.then (Again s E φ μ (μ g)) Q) s (E g) w) : wpC P (.loop c) Q s env w := by
  intro a ha b k cs
  have key : ∀ n g a w, μ g = n → Sat s a (E g) → φ g w →
      ∃ e a' w', Q e a' w' ∧ Arrives P (lone (b.at a (.code c :: .inLoop c :: k)) cs w) b k cs e a' w' := by
    intro n
    induction n using Nat.strongRecOn with
    | _ n ih =>
      intro g a w hn hs hI
      obtain ⟨e, a₁, w₁, hq, harr⟩ := round g w hI a hs b (.inLoop c :: k) cs
      cases e with
      | normal =>
        obtain ⟨g', hs', hI₁, hlt⟩ := hq
        obtain ⟨e₂, a₂, w₂, hq₂, harr₂⟩ := ih (μ g') (hn ▸ hlt) g' a₁ w₁ rfl hs' hI₁
        exact ⟨e₂, a₂, w₂, hq₂, .of_steps (Steps.trans harr (.one step_inLoop)) harr₂⟩
      | exit id => exact ⟨_, a₁, w₁, hq, .pass (x := .inLoop c) rfl (fun _ _ => .inl (by simp)) harr⟩
      | goto l => exact ⟨_, a₁, w₁, hq, .pass (x := .inLoop c) rfl (fun _ _ => .inl (by simp)) harr⟩
      | ret => exact ⟨_, a₁, w₁, hq, .pass (x := .inLoop c) rfl (fun _ _ => .inl (by simp)) harr⟩
      | panic ch => exact ⟨_, a₁, w₁, hq, .pass (x := .inLoop c) rfl (fun _ _ => .inl (by simp)) harr⟩
      | outgrown => exact ⟨_, a₁, w₁, hq, .pass (x := .inLoop c) rfl (fun _ _ => .inl (by simp)) harr⟩
  obtain ⟨e, a', w', hq, harr⟩ := key _ g0 a w rfl (ha.sub h0) hφ
  exact ⟨e, a', w', hq, .of_steps (.one step_loop) harr⟩

theorem X.next {y : Code} {Q' : Exit → Act → World → Prop} (h : wpC P y Q s env w) : wpX .normal (Exit.then (y.wp P Q) Q') s env w := fun a ha => h a ha
theorem X.join {G : Type} {E : G → Env} {φ : G → World → Prop} (g : G) (r : Sub (E g) env) (h : φ g w) : wpX .normal (Exit.then (Join s E φ) Q) s env w := fun _ ha => ⟨g, ha.sub r, h⟩
theorem X.again {G : Type} {E : G → Env} {φ : G → World → Prop} {μ : G → Nat} {m : Nat} (g : G) (r : Sub (E g) env) (h : φ g w) (hm : μ g < m) : wpX .normal (Exit.then (Again s E φ μ m) Q) s env w := fun _ ha => ⟨g, ha.sub r, h, hm⟩
theorem X.exitT {id : Nat} {K : Act → World → Prop} (h : wpX (.exit id) Q s env w) : wpX (.exit id) (Exit.then K Q) s env w := h
theorem X.retT {K : Act → World → Prop} (h : wpX .ret Q s env w) : wpX .ret (Exit.then K Q) s env w := h
theorem X.retB {id : Nat} (h : wpX .ret Q s env w) : wpX .ret (Exit.inBlock id Q) s env w := h
theorem X.outN {id : Nat} (h : wpX .normal Q s env w) : wpX .normal (Exit.inBlock id Q) s env w := h
theorem X.outE {id : Nat} (h : wpX .normal Q s env w) : wpX (.exit id) (Exit.inBlock id Q) s env w := fun a ha => by simp only [Exit.inBlock, if_true]; exact h a ha
theorem X.outNe {id id' : Nat} (hne : Nat.beq id' id = false) (h : wpX (.exit id') Q s env w) : wpX (.exit id') (Exit.inBlock id Q) s env w := fun a ha => by
  have : id' ≠ id := fun e => by subst e; simp at hne
  simp only [Exit.inBlock, if_neg this]; exact h a ha

def argEnv : Nat → List Value → Env
  | _, [] => []
  | i, v :: r => (i, v) :: argEnv (i + 1) r
theorem look_argEnv (l : List Value) : ∀ i j v, look (argEnv i l) j = some v → i ≤ j ∧ l[j - i]? = some v := by
  induction l with
  | nil => intro i j v h; cases h
  | cons u l ih =>
    intro i j v h
    rw [argEnv, look_cons] at h
    by_cases e : i = j
    · subst e; simp at h; subst h; simp
    · simp [e] at h
      have := ih (i + 1) j v h
      refine ⟨by omega, ?_⟩
      obtain ⟨k, hk⟩ : ∃ k, j - i = k + 1 := ⟨j - i - 1, by omega⟩
      rw [hk, List.getElem?_cons_succ]
      have e2 : j - (i + 1) = k := by omega
      rw [← e2]; exact this.2
theorem enterC {f : FuncId} {fn : Func} {c : Code} {n : Nat} {l : List Value} {R : Ending → World → Prop} (hf : P.funcs[f]? = some fn) (hb : fn.body = some c) (hn : fn.ntmps = n) (hl : Nat.ble l.length n = true)
    (h : wpC P c (bodyPost P fn R) ⟨n, []⟩ (argEnv 0 l) w) : Calls P f l.toArray w R := by
  refine calls_of_wp hf hb (h _ ⟨rfl, ?_, fun i v hi => ?_⟩)
  · have := Nat.le_of_ble_eq_true hl
    simp [hn]; omega
  · have := (look_argEnv l 0 i v hi).2
    simp at this
    rw [Array.getElem?_append_left (by simpa using (List.getElem?_eq_some_iff.1 this).1)]
    simpa using this
theorem enter {f : FuncId} {fn : Func} {c : Code} {n : Nat} {l : List Value} {Φ : Value → World → Prop} (hf : P.funcs[f]? = some fn) (hb : fn.body = some c) (hname : (fn.name == "runtime.NumGoroutine") = false) (hn : fn.ntmps = n) (hl : Nat.ble l.length n = true)
    (h : wpC P c (bodyPost P fn (RetPost Φ)) ⟨n, []⟩ (argEnv 0 l) w) : Ret P f l.toArray w Φ := ⟨⟨fn, hf, hname, by rw [hb]; rfl⟩, enterC hf hb hn hl h⟩

theorem retG {fn : Func} {n : Nat} {v : Value} {Φ : Value → World → Prop} (hr : ∀ a, Sat ⟨n, []⟩ a env → (results fn a.tmps).run P w = .ok v w) (h : Φ v w) : wpX .ret (bodyPost P fn (RetPost Φ)) ⟨n, []⟩ env w :=
  fun a ha => bodyPost_ret (hr a ha) ha.defers ⟨v, rfl, h⟩
theorem endG {fn : Func} {n : Nat} {v : Value} {Φ : Value → World → Prop} (hr : ∀ a, Sat ⟨n, []⟩ a env → (results fn a.tmps).run P w = .ok v w) (h : Φ v w) : wpX .normal (bodyPost P fn (RetPost Φ)) ⟨n, []⟩ env w :=
  fun a ha => bodyPost_end (hr a ha) ha.defers ⟨v, rfl, h⟩
theorem run_res1 {fn : Func} {n t : Nat} {v : Value} (hres : fn.results = #[.tmp t]) (hv : look env t = some v) (a : Act) (ha : Sat ⟨n, []⟩ a env) : (results fn a.tmps).run P w = .ok v w := by
  rw [results_tmp hres]; simp [ha.get t v hv]
theorem ret1 {fn : Func} {n t : Nat} {v : Value} {Φ : Value → World → Prop} (hres : fn.results = #[.tmp t]) (hv : look env t = some v) (h : Φ v w) : wpX .ret (bodyPost P fn (RetPost Φ)) ⟨n, []⟩ env w :=
  retG (run_res1 hres hv) h
theorem ret2 {fn : Func} {n t u : Nat} {v1 v2 : Value} {Φ : Value → World → Prop} (hres : fn.results = #[.tmp t, .tmp u]) (h1 : look env t = some v1) (h2 : look env u = some v2) (h : Φ (.tuple #[v1, v2]) w) : wpX .ret (bodyPost P fn (RetPost Φ)) ⟨n, []⟩ env w :=
  retG (fun a ha => by rw [results_tmp2 hres]; simp [ha.get t v1 h1, ha.get u v2 h2]) h
theorem ret3 {fn : Func} {n t u r : Nat} {v1 v2 v3 : Value} {Φ : Value → World → Prop} (hres : fn.results = #[.tmp t, .tmp u, .tmp r]) (h1 : look env t = some v1) (h2 : look env u = some v2) (h3 : look env r = some v3) (h : Φ (.tuple #[v1, v2, v3]) w) : wpX .ret (bodyPost P fn (RetPost Φ)) ⟨n, []⟩ env w :=
  retG (fun a ha => by simp [results, hres, ha.get t v1 h1, ha.get u v2 h2, ha.get r v3 h3]) h
theorem end0 {fn : Func} {n : Nat} {Φ : Value → World → Prop} (hres : fn.results = #[]) (h : Φ (.tuple #[]) w) : wpX .normal (bodyPost P fn (RetPost Φ)) ⟨n, []⟩ env w :=
  endG (fun a _ => results_none hres a.tmps P w) h
theorem ret0 {fn : Func} {n : Nat} {Φ : Value → World → Prop} (hres : fn.results = #[]) (h : Φ (.tuple #[]) w) : wpX .ret (bodyPost P fn (RetPost Φ)) ⟨n, []⟩ env w :=
  retG (fun a _ => results_none hres a.tmps P w) h
end
end Go.Proofs.YtcmgbjmcklfkcaaDoor.Sym

/- The walk by named slots, more operations: numbers, slices that are read, slices of the call's own. For whatever program. -/
namespace Go.Proofs.YtcmgbjmcklfkcaaDoor.Sym
set_option linter.unusedSimpArgs false
set_option linter.unusedVariables false
open Go.RowKit

section
variable {P : Program} {ops : Array Oper} {Q : Exit → Act → World → Prop} {s : St} {env : Env} {w : World} {rest : List Oper}
variable {d : Nat} {ty : TypeId} {pos : String} {aft : Array Edge}

/-! numbers -/
theorem E.add {t t2 : TypeId} {x y : Operand} {a b : Int} (hx : ev env x = some (.int .i64 a)) (hy : ev env y = some (.int .i64 b)) (hr : -9223372036854775808 ≤ a + b ∧ a + b ≤ 9223372036854775807)
    (hd : Nat.blt d s.n = true) (h : wpE P ops Q s rest ((d, .int .i64 (a + b)) :: env) w) : wpE P ops Q s (⟨some d, .binOp .add t x y t2, ty, pos, aft, none⟩ :: rest) env w :=
  E.bin hx hy (v := .int .i64 (a + b)) (by simp only [iop]; rw [IntWalk.i64_in _ hr]) hd h
theorem E.sub' {t t2 : TypeId} {x y : Operand} {a b : Int} (hx : ev env x = some (.int .i64 a)) (hy : ev env y = some (.int .i64 b)) (hr : -9223372036854775808 ≤ a - b ∧ a - b ≤ 9223372036854775807)
    (hd : Nat.blt d s.n = true) (h : wpE P ops Q s rest ((d, .int .i64 (a - b)) :: env) w) : wpE P ops Q s (⟨some d, .binOp .sub t x y t2, ty, pos, aft, none⟩ :: rest) env w :=
  E.bin hx hy (v := .int .i64 (a - b)) (by simp only [iop]; rw [IntWalk.i64_in _ hr]) hd h
theorem E.mul {t t2 : TypeId} {x y : Operand} {a b : Int} (hx : ev env x = some (.int .i64 a)) (hy : ev env y = some (.int .i64 b)) (hr : -9223372036854775808 ≤ a * b ∧ a * b ≤ 9223372036854775807)
    (hd : Nat.blt d s.n = true) (h : wpE P ops Q s rest ((d, .int .i64 (a * b)) :: env) w) : wpE P ops Q s (⟨some d, .binOp .mul t x y t2, ty, pos, aft, none⟩ :: rest) env w :=
  E.bin hx hy (v := .int .i64 (a * b)) (by simp only [iop]; rw [IntWalk.i64_in _ hr]) hd h
/-- the result is told by an equation -/
theorem E.binw {op : BinOp} {t t2 : TypeId} {x y : Operand} {k : IntKind} {a b : Int} {v v' : Value} (hx : ev env x = some (.int k a)) (hy : ev env y = some (.int k b)) (hv : iop op k a b = some v) (he : v = v')
    (hd : Nat.blt d s.n = true) (h : wpE P ops Q s rest ((d, v') :: env) w) : wpE P ops Q s (⟨some d, .binOp op t x y t2, ty, pos, aft, none⟩ :: rest) env w :=
  E.bin hx hy (hv.trans (congrArg some he)) hd h
theorem E.quo {t t2 : TypeId} {x y : Operand} {k : IntKind} {a b c : Int} (hx : ev env x = some (.int k a)) (hy : ev env y = some (.int k b)) (hb : b ≠ 0) (hr : k.wrap (a.tdiv b) = c)
    (hd : Nat.blt d s.n = true) (h : wpE P ops Q s rest ((d, .int k c) :: env) w) : wpE P ops Q s (⟨some d, .binOp .quo t x y t2, ty, pos, aft, none⟩ :: rest) env w :=
  E.op (fun a ha => by simp [execOp, ha.ev hx, ha.ev hy, eqGuard, binOp, Op.intDiv, hb, hr]) hd h
theorem E.rem {t t2 : TypeId} {x y : Operand} {k : IntKind} {a b c : Int} (hx : ev env x = some (.int k a)) (hy : ev env y = some (.int k b)) (hb : b ≠ 0) (hr : a.tmod b = c)
    (hd : Nat.blt d s.n = true) (h : wpE P ops Q s rest ((d, .int k c) :: env) w) : wpE P ops Q s (⟨some d, .binOp .rem t x y t2, ty, pos, aft, none⟩ :: rest) env w :=
  E.op (fun a ha => by simp [execOp, ha.ev hx, ha.ev hy, eqGuard, binOp, Op.intDiv, hb, hr]) hd h
theorem E.shl {t t2 : TypeId} {x y : Operand} {k yk : IntKind} {a b c : Int} (hx : ev env x = some (.int k a)) (hy : ev env y = some (.int yk b)) (hb : 0 ≤ b) (hr : k.wrap (a * 2 ^ min b.toNat k.bits) = c)
    (hd : Nat.blt d s.n = true) (h : wpE P ops Q s rest ((d, .int k c) :: env) w) : wpE P ops Q s (⟨some d, .binOp .shl t x y t2, ty, pos, aft, none⟩ :: rest) env w :=
  E.op (fun a ha => by
    have hb' : ¬ b < 0 := by omega
    simp [execOp, ha.ev hx, ha.ev hy, eqGuard, binOp, Op.shift, hb', hr]) hd h
theorem E.shr {t t2 : TypeId} {x y : Operand} {k yk : IntKind} {a b c : Int} (hx : ev env x = some (.int k a)) (hy : ev env y = some (.int yk b)) (hb : 0 ≤ b) (hr : a / 2 ^ min b.toNat k.bits = c)
    (hd : Nat.blt d s.n = true) (h : wpE P ops Q s rest ((d, .int k c) :: env) w) : wpE P ops Q s (⟨some d, .binOp .shr t x y t2, ty, pos, aft, none⟩ :: rest) env w :=
  E.op (fun a' ha => by
    have hs := shift_shr_any k yk a b hb
    simp [execOp, ha.ev hx, ha.ev hy, eqGuard, binOp, hs, hr]) hd h
theorem E.conv {x : Operand} {src dst : TypeId} {ds : TypeDesc} {k0 k : IntKind} {a c : Int} (hx : ev env x = some (.int k0 a)) (hs : P.underlying src = some ds) (ht : P.underlying dst = some (.int k)) (hr : k.wrap a = c)
    (hd : Nat.blt d s.n = true) (h : wpE P ops Q s rest ((d, .int k c) :: env) w) : wpE P ops Q s (⟨some d, .convert src dst x, ty, pos, aft, none⟩ :: rest) env w :=
  E.op (fun a ha => by simp [execOp, ha.ev hx, convert, run_underlying hs, run_underlying ht, Conv.intToInt, hr]) hd h
theorem E.not {x : Operand} {t : TypeId} {b : Bool} (hx : ev env x = some (.bool b)) (hd : Nat.blt d s.n = true) (h : wpE P ops Q s rest ((d, .bool (!b)) :: env) w) : wpE P ops Q s (⟨some d, .unOp .not t x, ty, pos, aft, none⟩ :: rest) env w :=
  E.op (fun a ha => by simp [execOp, ha.ev hx, Op.unary]) hd h
theorem E.neg {x : Operand} {t : TypeId} {k : IntKind} {a c : Int} (hx : ev env x = some (.int k a)) (hr : k.wrap (0 - a) = c) (hd : Nat.blt d s.n = true) (h : wpE P ops Q s rest ((d, .int k c) :: env) w) : wpE P ops Q s (⟨some d, .unOp .neg t x, ty, pos, aft, none⟩ :: rest) env w :=
  E.op (fun a' ha => by simp [execOp, ha.ev hx, unary_neg, Op.intArith] at hr ⊢; exact hr) hd h
theorem E.flip {x : Operand} {t : TypeId} {k : IntKind} {a c : Int} (hx : ev env x = some (.int k a)) (hr : bits .xor k (if k.signed then -1 else k.max) a = c) (hd : Nat.blt d s.n = true) (h : wpE P ops Q s rest ((d, .int k c) :: env) w) : wpE P ops Q s (⟨some d, .unOp .xor t x, ty, pos, aft, none⟩ :: rest) env w :=
  E.op (fun a' ha => by
    have : (Op.unary .xor (.int k a)).run P w = .ok (.int k c) w := by rw [unary_xor, ← hr]; rfl
    simp [execOp, ha.ev hx, this]) hd h
theorem E.eqb {t t2 : TypeId} {x y : Operand} {a b : Bool} (hx : ev env x = some (.bool a)) (hy : ev env y = some (.bool b)) (ht : P.underlying t = some .bool)
    (hd : Nat.blt d s.n = true) (h : wpE P ops Q s rest ((d, .bool (a == b)) :: env) w) : wpE P ops Q s (⟨some d, .binOp .eql t x y t2, ty, pos, aft, none⟩ :: rest) env w :=
  E.op (fun a' ha => by
    have h1 := run_eql_bool (P := P) w t a b ht
    simp [execOp, ha.ev hx, ha.ev hy, eqGuard, h1]) hd h
theorem E.neb {t t2 : TypeId} {x y : Operand} {a b : Bool} (hx : ev env x = some (.bool a)) (hy : ev env y = some (.bool b)) (ht : P.underlying t = some .bool)
    (hd : Nat.blt d s.n = true) (h : wpE P ops Q s rest ((d, .bool (!(a == b))) :: env) w) : wpE P ops Q s (⟨some d, .binOp .neq t x y t2, ty, pos, aft, none⟩ :: rest) env w :=
  E.op (fun a' ha => by
    have h1 := run_equal_bool (P := P) w t a b ht
    have h2 : (binOp .neq t (.bool a) (.bool b)).run P w = .ok (.bool (!(a == b))) w := by simp only [binOp]; simp [h1]
    simp only [execOp, ha.ev hx, ha.ev hy, eqGuard]
    simp [h2]) hd h
theorem E.ext {x : Operand} {i : Nat} {vs : List Value} {v : Value} (hx : ev env x = some (.tuple vs.toArray)) (hv : vs[i]? = some v) (hd : Nat.blt d s.n = true) (h : wpE P ops Q s rest ((d, v) :: env) w) : wpE P ops Q s (⟨some d, .extract x i, ty, pos, aft, none⟩ :: rest) env w :=
  E.op (fun a ha => by simp [execOp, ha.ev hx, Instr.extract, hv]) hd h
theorem E.min2 {ats : Array TypeId} {x y : Operand} {k : IntKind} {a b : Int} (hx : ev env x = some (.int k a)) (hy : ev env y = some (.int k b)) 
    (hd : Nat.blt d s.n = true) (h : wpE P ops Q s rest ((d, .int k (min a b)) :: env) w) : wpE P ops Q s (⟨some d, .call ⟨.builtin .min, #[x, y], ats⟩, ty, pos, aft, none⟩ :: rest) env w :=
  E.op (fun a' ha => by
    have e : (if b < a then b else a) = min a b := by rw [Int.min_def]; split <;> split <;> omega
    simp [execOp, resolve, invoke, builtin, Builtin.min_, Builtin.min2, ha.ev hx, ha.ev hy, e]) hd h
theorem E.max2 {ats : Array TypeId} {x y : Operand} {k : IntKind} {a b : Int} (hx : ev env x = some (.int k a)) (hy : ev env y = some (.int k b)) 
    (hd : Nat.blt d s.n = true) (h : wpE P ops Q s rest ((d, .int k (max a b)) :: env) w) : wpE P ops Q s (⟨some d, .call ⟨.builtin .max, #[x, y], ats⟩, ty, pos, aft, none⟩ :: rest) env w :=
  E.op (fun a' ha => by
    have e : (if b > a then b else a) = max a b := by rw [Int.max_def]; split <;> split <;> omega
    simp [execOp, resolve, invoke, builtin, Builtin.max_, Builtin.max2, ha.ev hx, ha.ev hy, e]) hd h
end
end Go.Proofs.YtcmgbjmcklfkcaaDoor.Sym
