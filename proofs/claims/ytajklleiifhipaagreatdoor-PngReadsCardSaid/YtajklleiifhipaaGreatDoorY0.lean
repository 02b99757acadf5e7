/- Texts of the claim, laid together: Sym, Sym2, Sym3, Sym4. -/
import Derived.WalkKit
import Derived.WalkSpells
import Derived.WalkLawsBesides
import Derived.Orders
import Derived.Deep.Quiet
import Derived.Lib.SlBytesConst
set_option linter.unusedSimpArgs false
set_option linter.unusedVariables false
namespace Go.Proofs.YtajklleiifhipaaGreatDoor
theorem Za {α : Type _} (l : List α) : [] ++ l = l := rfl
theorem Zb {α : Type _} {a : α} {l m : List α} : (a :: l) ++ m = a :: (l ++ m) := rfl
theorem Zc {α : Type _} {a b : α} {l : List α} : (a :: l).set 0 b = b :: l := rfl
theorem Zd {α : Type _} {a b : α} {l : List α} {n : Nat} : (a :: l).set (n + 1) b = a :: l.set n b := rfl
theorem Ya {p : Prop} [Decidable p] : (decide p = true) = p := decide_eq_true_eq
theorem Yb {p : Prop} {h : Decidable p} : decide p = false ↔ ¬ p := decide_eq_false_iff_not
theorem Yc {α : Sort _} (a b : α) : (a ≠ b) = ¬ (a = b) := rfl
theorem Yd {p : Prop} [Decidable p] : ¬ ¬ p ↔ p := Decidable.not_not
theorem Ye (b : Bool) : ((!b) = true) = (b = false) := Bool.not_eq_true' b
theorem Yf (b : Bool) : ((!b) = false) = (b = true) := Bool.not_eq_false' b
end Go.Proofs.YtajklleiifhipaaGreatDoor
namespace Go.Proofs.YtajklleiifhipaaGreatDoor.Sym
open Go.RowKit
abbrev Env := List (Nat × Value)
def look : Env → Nat → Option Value
 | [], _ => none
 | (d, v) :: r, j => bif Nat.beq d j then some v else look r j
def ev (env : Env) : Operand → Option Value
 | .tmp t => look env t
 | .const v => some v
 | .global g => some (.pointer (some ⟨g, 0, none⟩))
 | .func f => some (.func (.func f) #[] #[])
def evl (env : Env) : List Operand → Option (List Value)
 | [] => some []
 | x :: r => match ev env x, evl env r with
  | some v, some l => some (v :: l)
  | _, _ => none
structure St where
 n : Nat
 ds : List Deferred
structure Sat (s : St) (a : Act) (env : Env) : Prop where
 defers : a.defers = s.ds
 size : a.tmps.size = s.n
 get : ∀ i v, look env i = some v → a.tmps[i]? = some v
theorem Sat.ev {s : St} {a : Act} {env : Env} (h : Sat s a env) {x : Operand} {v : Value} (hx : Sym.ev env x = some v) : a.eval x = v := by
 cases x with
 | tmp t => have := h.get t v hx; simp [Act.eval, this]
 | const u => simpa [Sym.ev, Act.eval] using hx
 | global g => simpa [Sym.ev, Act.eval] using hx
 | func f => simpa [Sym.ev, Act.eval] using hx
theorem Sat.evl {s : St} {a : Act} {env : Env} (h : Sat s a env) : ∀ {xs : List Operand} {vs : List Value}, Sym.evl env xs = some vs → xs.map a.eval = vs
 | [], vs, hx => by simp [Sym.evl] at hx; simp [hx]
 | x :: r, vs, hx => by
  unfold Sym.evl at hx
  cases h1 : Sym.ev env x with
  | none => simp [h1] at hx
  | some v =>
   cases h2 : Sym.evl env r with
   | none => simp [h1, h2] at hx
   | some l =>
    simp [h1, h2] at hx
    subst hx
    simp [h.ev h1, h.evl h2]
theorem look_cons (d : Nat) (v : Value) (env : Env) (i : Nat) : look ((d, v) :: env) i = if d = i then some v else look env i := by
 show (bif Nat.beq d i then some v else look env i) = _
 by_cases h : d = i
 · subst h; simp
 have : Nat.beq d i = false := by
  cases hb : Nat.beq d i with
  | false => rfl
  | true => exact absurd (Nat.eq_of_beq_eq_true hb) h
 simp [this, h]
theorem Sat.put {s : St} {a : Act} {env : Env} (h : Sat s a env) (d : Nat) (v : Value) (hd : Nat.blt d s.n = true) : Sat s (a.put (some d) v) ((d, v) :: env) := by
  have hd' : d < a.tmps.size := by rw [h.size]; simpa [Nat.blt_eq] using hd
  refine ⟨h.defers, by simpa [Act.put] using h.size, fun i u hu => ?_⟩
  rw [look_cons] at hu
  by_cases e : d = i
  · subst e
    simp at hu
    subst hu
    simp [Act.put, hd']
  simp [e] at hu
  simp [Act.put, e, h.get i u hu]
def Sub (env' env : Env) : Prop := ∀ i v, look env' i = some v → look env i = some v
theorem Sub.nil (env : Env) : Sub [] env := fun _ _ h => by cases h
theorem Sub.cons {d : Nat} {v : Value} {env' env : Env} (h : look env d = some v) (r : Sub env' env) : Sub ((d, v) :: env') env := fun i u hu => by
 rw [look_cons] at hu
 by_cases e : d = i
 · subst e; simp at hu; subst hu; exact h
 simp [e] at hu; exact r i u hu
theorem Sub.refl (env : Env) : Sub env env := fun _ _ h => h
theorem Sat.sub {s : St} {a : Act} {env env' : Env} (h : Sat s a env) (r : Sub env' env) : Sat s a env' := ⟨h.defers, h.size, fun i v hi => h.get i v (r i v hi)⟩
def wpE (P : Program) (ops : Array Oper) (Q : Exit → Act → World → Prop) (s : St) (l : List Oper) (env : Env) (w : World) : Prop := ∀ a, Sat s a env → wpList P ops Q l a w
def wpC (P : Program) (c : Code) (Q : Exit → Act → World → Prop) (s : St) (env : Env) (w : World) : Prop := ∀ a, Sat s a env → c.wp P Q a w
def wpX (e : Exit) (Q : Exit → Act → World → Prop) (s : St) (env : Env) (w : World) : Prop := ∀ a, Sat s a env → Q e a w
def Callable (P : Program) (f : FuncId) : Prop := ∃ fn, P.funcs[f]? = some fn ∧ (fn.name == "runtime.NumGoroutine") = false ∧ fn.body.isNone = false
def RetPost (Φ : Value → World → Prop) (e : Ending) (w' : World) : Prop := ∃ v, e = .returned v ∧ Φ v w'
def Ret (P : Program) (f : FuncId) (args : Array Value) (w : World) (Φ : Value → World → Prop) : Prop := Callable P f ∧ Calls P f args w (RetPost Φ)
theorem Ret.mono {P : Program} {f : FuncId} {args : Array Value} {w : World} {Φ Ψ : Value → World → Prop} (h : Ret P f args w Φ) (k : ∀ v w', Φ v w' → Ψ v w') : Ret P f args w Ψ :=
 ⟨h.1, Calls.mono h.2 fun _ _ ⟨v, he, hv⟩ => ⟨v, he, k v _ hv⟩⟩
theorem run_callable {P : Program} {f : FuncId} (h : Callable P f) (args : Array Value) (w : World) : (callFunc f args).run P w = .ok (.enter f args) w := by
 obtain ⟨fn, hf, hn, hb⟩ := h
 have hb' : ¬ fn.body = none := by intro e; rw [e] at hb; cases hb
 have hn' : ¬ fn.name = "runtime.NumGoroutine" := by simpa using hn
 simp [callFunc, program, Sem.run, hf, hn', hb']
section
variable {P : Program} {ops : Array Oper} {Q : Exit → Act → World → Prop} {s : St} {env : Env} {w : World} {rest : List Oper}
variable {d : Nat} {ty : TypeId} {pos : String} {aft : Array Edge}
theorem E.nil (h : wpX .normal Q s env w) : wpE P ops Q s [] env w := fun a ha => wpList_nil (h a ha)
theorem E.sub {l : List Oper} {env' : Env} (r : Sub env' env) (h : wpE P ops Q s l env' w) : wpE P ops Q s l env w := fun a ha => h a (ha.sub r)
theorem E.op {op : Op} {v : Value} {w' : World} (hrun : ∀ a, Sat s a env → (execOp a.eval ⟨some d, op, ty, pos, aft, none⟩).run P w = .ok (.value v) w')
  (hd : Nat.blt d s.n = true) (h : wpE P ops Q s rest ((d, v) :: env) w') : wpE P ops Q s (⟨some d, op, ty, pos, aft, none⟩ :: rest) env w := fun a ha =>
 wpList_plain rfl fun K hK => by
  unfold Oper.wp
  rw [hrun a ha]
  exact hK _ _ (h _ (ha.put d v hd))
theorem E.op0 {op : Op} {w' : World} (hrun : ∀ a, Sat s a env → (execOp a.eval ⟨none, op, ty, pos, aft, none⟩).run P w = .ok .skip w')
  (h : wpE P ops Q s rest env w') : wpE P ops Q s (⟨none, op, ty, pos, aft, none⟩ :: rest) env w := fun a ha =>
 wpList_plain rfl fun K hK => by
  unfold Oper.wp
  rw [hrun a ha]
  exact hK _ _ (h _ ha)
theorem E.on {dst : Option Nat} {op : Op} {j sl : Nat} {b : Bool} (hs : (ops[j]?).bind (·.dst) = some sl) (hb : look env sl = some (.bool b))
  (h : wpE P ops Q s (⟨dst, op, ty, pos, aft, none⟩ :: rest) env w) : wpE P ops Q s (⟨dst, op, ty, pos, aft, some (j, b)⟩ :: rest) env w := fun a ha => by
 have h1 := h a ha
 unfold wpList at h1 ⊢
 have hy : yielded ops a.tmps j = some b := by simp [yielded, hs, ha.get sl _ hb]
 simp only [Region.wanted, hy, beq_self_eq_true, if_true] at h1 ⊢
 exact h1
theorem E.off {op : Op} {j sl : Nat} {b c : Bool} (hs : (ops[j]?).bind (·.dst) = some sl) (hb : look env sl = some (.bool c)) (hne : (c == b) = false) (hd : Nat.blt d s.n = true)
  (h : wpE P ops Q s rest ((d, undef) :: env) w) : wpE P ops Q s (⟨some d, op, ty, pos, aft, some (j, b)⟩ :: rest) env w := fun a ha => by
 have hy : yielded ops a.tmps j = some c := by simp [yielded, hs, ha.get sl _ hb]
 unfold wpList
 simp only [Region.wanted, hy]
 have : (some c == some b) = false := by simpa using hne
 simp only [this]
 exact h _ (ha.put d undef hd)
theorem E.offu {op : Op} {j sl : Nat} {b : Bool} (hs : (ops[j]?).bind (·.dst) = some sl) (hb : look env sl = some undef) (hd : Nat.blt d s.n = true)
  (h : wpE P ops Q s rest ((d, undef) :: env) w) : wpE P ops Q s (⟨some d, op, ty, pos, aft, some (j, b)⟩ :: rest) env w := fun a ha => by
 have hy : yielded ops a.tmps j = none := by simp [yielded, hs, ha.get sl _ hb, undef]
 unfold wpList
 simp only [Region.wanted, hy]
 exact h _ (ha.put d undef hd)
theorem E.mv {x : Operand} {v : Value} (hx : ev env x = some v) (hd : Nat.blt d s.n = true) (h : wpE P ops Q s rest ((d, v) :: env) w) : wpE P ops Q s (⟨some d, .move x, ty, pos, aft, none⟩ :: rest) env w :=
 E.op (fun a ha => by simp [execOp, ha.ev hx]) hd h
theorem E.asg {x : Operand} {v : Value} (hx : ev env x = some v) (hd : Nat.blt d s.n = true) (h : wpE P ops Q s rest ((d, v) :: env) w) : wpE P ops Q s (⟨some d, .assign x, ty, pos, aft, none⟩ :: rest) env w :=
 E.op (fun a ha => by simp [execOp, ha.ev hx]) hd h
theorem E.pick {c x y : Operand} {b : Bool} {v : Value} (hc : ev env c = some (.bool b)) (hx : (bif b then ev env x else ev env y) = some v) (hd : Nat.blt d s.n = true) (h : wpE P ops Q s rest ((d, v) :: env) w) : wpE P ops Q s (⟨some d, .pick c x y, ty, pos, aft, none⟩ :: rest) env w :=
 E.op (fun a ha => by cases b <;> simp at hx <;> simp [execOp, ha.ev hc, ha.ev hx, asBool]) hd h
def iop (op : BinOp) (k : IntKind) (a b : Int) : Option Value :=
 match op with
 | .add => some (.int k (k.wrap (a + b)))
 | .sub => some (.int k (k.wrap (a - b)))
 | .mul => some (.int k (k.wrap (a * b)))
 | .and => some (.int k (bits .and k a b))
 | .or => some (.int k (bits .or k a b))
 | .xor => some (.int k (bits .xor k a b))
 | .andNot => some (.int k (bits .andNot k a b))
 | .eql => some (.bool (decide (a = b)))
 | .neq => some (.bool (decide (a ≠ b)))
 | .lss => some (.bool (decide (a < b)))
 | .leq => some (.bool (decide (a ≤ b)))
 | .gtr => some (.bool (decide (b < a)))
 | .geq => some (.bool (decide (b ≤ a)))
 | _ => none
theorem run_iop {op : BinOp} {k : IntKind} {a b : Int} {v : Value} (t : TypeId) (x y : Operand) (h : iop op k a b = some v) (w : World) :
  (do eqGuard op t x y (.int k a) (.int k b); binOp op t (.int k a) (.int k b) : Sem Value).run P w = .ok v w := by
 cases op <;> simp [iop] at h <;> subst h <;> simp [eqGuard, binOp, Op.intArith, Op.intCmp, Op.intBits, bits] <;> try (first | rfl | (rw [Bool.eq_iff_iff]; simp))
theorem E.bin {op : BinOp} {t t2 : TypeId} {x y : Operand} {k : IntKind} {a b : Int} {v : Value} (hx : ev env x = some (.int k a)) (hy : ev env y = some (.int k b)) (hv : iop op k a b = some v)
  (hd : Nat.blt d s.n = true) (h : wpE P ops Q s rest ((d, v) :: env) w) : wpE P ops Q s (⟨some d, .binOp op t x y t2, ty, pos, aft, none⟩ :: rest) env w :=
 E.op (fun a ha => by
  have := run_iop (P := P) t x y hv w
  simp only [execOp, ha.ev hx, ha.ev hy]
  rw [Sem.run_bind, this]; rfl) hd h
theorem E.call {f : FuncId} {xs : List Operand} {ats : Array TypeId} {vs : List Value} {Φ : Value → World → Prop} (hx : evl env xs = some vs) (hd : Nat.blt d s.n = true) (hc : Ret P f vs.toArray w Φ)
  (h : ∀ v w', Φ v w' → wpE P ops Q s rest ((d, v) :: env) w') : wpE P ops Q s (⟨some d, .call ⟨.value (.func f), xs.toArray, ats⟩, ty, pos, aft, none⟩ :: rest) env w := fun a ha =>
 wpList_plain rfl fun K hK => by
  unfold Oper.wp
  have hr : (execOp a.eval ⟨some d, .call ⟨.value (.func f), xs.toArray, ats⟩, ty, pos, aft, none⟩).run P w = .ok (.enter f vs.toArray) w := by
   simp [execOp, resolve, invoke, Act.eval, Deferred.ofValue, ha.evl hx, run_callable hc.1]
  rw [hr, Oper.upon_enter]
  refine Calls.mono hc.2 ?_
  rintro e w' ⟨v, rfl, hv⟩
  exact hK _ _ (h v w' hv _ (ha.put d v hd))
end
def Again {G : Type} (s : St) (E : G → Env) (φ : G → World → Prop) (μ : G → Nat) (m : Nat) (a : Act) (w : World) : Prop := ∃ g, Sat s a (E g) ∧ φ g w ∧ μ g < m
section
variable {P : Program} {Q : Exit → Act → World → Prop} {s : St} {env : Env} {w : World}
theorem C.region {id : Nat} {l : List Oper} (h : wpE P l.toArray Q s l env w) : wpC P (.region id l.toArray false) Q s env w := fun a ha => wp_region_lit (h a ha)
theorem C.seq {x y : Code} (h : wpC P x (Exit.then (y.wp P Q) Q) s env w) : wpC P (.seq x y) Q s env w := fun a ha => wp_seq (h a ha)
theorem C.block {id : Nat} {c : Code} (h : wpC P c (Exit.inBlock id Q) s env w) : wpC P (.block id c) Q s env w := fun a ha => wp_block (h a ha)
theorem C.skip (h : wpX .normal Q s env w) : wpC P .skip Q s env w := fun a ha => wp_skip (h a ha)
theorem C.ret (h : wpX .ret Q s env w) : wpC P .ret Q s env w := fun a ha => wp_ret (h a ha)
theorem C.exit {id : Nat} (h : wpX (.exit id) Q s env w) : wpC P (.exit id) Q s env w := fun a ha => wp_exit (h a ha)
theorem C.cond {c : Operand} {x y : Code} {b : Bool} (hc : ev env c = some (.bool b)) (ht : b = true → wpC P x Q s env w) (hf : b = false → wpC P y Q s env w) : wpC P (.cond c x y) Q s env w := fun a ha =>
 wp_cond_split (ha.ev hc) (fun h => ht h a ha) (fun h => hf h a ha)
theorem C.cond' {c : Operand} {x y : Code} {p : Prop} [Decidable p] (hc : ev env c = some (.bool (decide p))) (ht : p → wpC P x Q s env w) (hf : ¬ p → wpC P y Q s env w) : wpC P (.cond c x y) Q s env w :=
 C.cond hc (fun h => ht (of_decide_eq_true h)) (fun h => hf (of_decide_eq_false h))
theorem C.loop {G : Type} (E : G → Env) (φ : G → World → Prop) (μ : G → Nat) (g0 : G) {c : Code} (h0 : Sub (E g0) env) (hφ : φ g0 w)
  (round : ∀ g w, φ g w → wpC P c (Exit.then (Again s E φ μ (μ g)) Q) s (E g) w) : wpC P (.loop c) Q s env w := by
 intro a ha b k cs
 have key : ∀ n g a w, μ g = n → Sat s a (E g) → φ g w →
   ∃ e a' w', Q e a' w' ∧ Arrives P (lone (b.at a (.code c :: .inLoop c :: k)) cs w) b k cs e a' w' := by
  intro n
  induction n using Nat.strongRecOn with
  | _ n ih =>
   intro g a w hn hs hI
   obtain ⟨e, a₁, w₁, hq, harr⟩ := round g w hI a hs b (.inLoop c :: k) cs
   cases e with
   | normal =>
    obtain ⟨g', hs', hI₁, hlt⟩ := hq
    obtain ⟨e₂, a₂, w₂, hq₂, harr₂⟩ := ih (μ g') (hn ▸ hlt) g' a₁ w₁ rfl hs' hI₁
    exact ⟨e₂, a₂, w₂, hq₂, .of_steps (Steps.trans harr (.one step_inLoop)) harr₂⟩
   | exit id => exact ⟨_, a₁, w₁, hq, .pass (x := .inLoop c) rfl (fun _ _ => .inl (by simp)) harr⟩
   | goto l => exact ⟨_, a₁, w₁, hq, .pass (x := .inLoop c) rfl (fun _ _ => .inl (by simp)) harr⟩
   | ret => exact ⟨_, a₁, w₁, hq, .pass (x := .inLoop c) rfl (fun _ _ => .inl (by simp)) harr⟩
   | panic ch => exact ⟨_, a₁, w₁, hq, .pass (x := .inLoop c) rfl (fun _ _ => .inl (by simp)) harr⟩
   | outgrown => exact ⟨_, a₁, w₁, hq, .pass (x := .inLoop c) rfl (fun _ _ => .inl (by simp)) harr⟩
 obtain ⟨e, a', w', hq, harr⟩ := key _ g0 a w rfl (ha.sub h0) hφ
 exact ⟨e, a', w', hq, .of_steps (.one step_loop) harr⟩
theorem X.next {y : Code} {Q' : Exit → Act → World → Prop} (h : wpC P y Q s env w) : wpX .normal (Exit.then (y.wp P Q) Q') s env w := fun a ha => h a ha
theorem X.again {G : Type} {E : G → Env} {φ : G → World → Prop} {μ : G → Nat} {m : Nat} (g : G) (r : Sub (E g) env) (h : φ g w) (hm : μ g < m) : wpX .normal (Exit.then (Again s E φ μ m) Q) s env w := fun _ ha => ⟨g, ha.sub r, h, hm⟩
theorem X.exitT {id : Nat} {K : Act → World → Prop} (h : wpX (.exit id) Q s env w) : wpX (.exit id) (Exit.then K Q) s env w := h
theorem X.retT {K : Act → World → Prop} (h : wpX .ret Q s env w) : wpX .ret (Exit.then K Q) s env w := h
theorem X.retB {id : Nat} (h : wpX .ret Q s env w) : wpX .ret (Exit.inBlock id Q) s env w := h
theorem X.outN {id : Nat} (h : wpX .normal Q s env w) : wpX .normal (Exit.inBlock id Q) s env w := h
theorem X.outE {id : Nat} (h : wpX .normal Q s env w) : wpX (.exit id) (Exit.inBlock id Q) s env w := fun a ha => by simp only [Exit.inBlock, if_true]; exact h a ha
theorem X.outNe {id id' : Nat} (hne : Nat.beq id' id = false) (h : wpX (.exit id') Q s env w) : wpX (.exit id') (Exit.inBlock id Q) s env w := fun a ha => by
 have : id' ≠ id := fun e => by subst e; simp at hne
 simp only [Exit.inBlock, if_neg this]; exact h a ha
def argEnv : Nat → List Value → Env
 | _, [] => []
 | i, v :: r => (i, v) :: argEnv (i + 1) r
theorem look_argEnv (l : List Value) : ∀ i j v, look (argEnv i l) j = some v → i ≤ j ∧ l[j - i]? = some v := by
 induction l with
 | nil => intro i j v h; cases h
 | cons u l ih =>
  intro i j v h
  rw [argEnv, look_cons] at h
  by_cases e : i = j
  · subst e; simp at h; subst h; simp
  simp [e] at h
  have := ih (i + 1) j v h
  refine ⟨by omega, ?_⟩
  obtain ⟨k, hk⟩ : ∃ k, j - i = k + 1 := ⟨j - i - 1, by omega⟩
  rw [hk, List.getElem?_cons_succ]
  have e2 : j - (i + 1) = k := by omega
  rw [← e2]; exact this.2
theorem enterC {f : FuncId} {fn : Func} {c : Code} {n : Nat} {l : List Value} {R : Ending → World → Prop} (hf : P.funcs[f]? = some fn) (hb : fn.body = some c) (hn : fn.ntmps = n) (hl : Nat.ble l.length n = true)
    (h : wpC P c (bodyPost P fn R) ⟨n, []⟩ (argEnv 0 l) w) : Calls P f l.toArray w R := by
  refine calls_of_wp hf hb (h _ ⟨rfl, ?_, fun i v hi => ?_⟩)
  · have := Nat.le_of_ble_eq_true hl
    simp [hn]; omega
  have := (look_argEnv l 0 i v hi).2
  simp at this
  rw [Array.getElem?_append_left (by simpa using (List.getElem?_eq_some_iff.1 this).1)]
  simpa using this
theorem enter {f : FuncId} {fn : Func} {c : Code} {n : Nat} {l : List Value} {Φ : Value → World → Prop} (hf : P.funcs[f]? = some fn) (hb : fn.body = some c) (hname : (fn.name == "runtime.NumGoroutine") = false) (hn : fn.ntmps = n) (hl : Nat.ble l.length n = true)
  (h : wpC P c (bodyPost P fn (RetPost Φ)) ⟨n, []⟩ (argEnv 0 l) w) : Ret P f l.toArray w Φ := ⟨⟨fn, hf, hname, by rw [hb]; rfl⟩, enterC hf hb hn hl h⟩
theorem retG {fn : Func} {n : Nat} {v : Value} {Φ : Value → World → Prop} (hr : ∀ a, Sat ⟨n, []⟩ a env → (results fn a.tmps).run P w = .ok v w) (h : Φ v w) : wpX .ret (bodyPost P fn (RetPost Φ)) ⟨n, []⟩ env w :=
 fun a ha => bodyPost_ret (hr a ha) ha.defers ⟨v, rfl, h⟩
theorem endG {fn : Func} {n : Nat} {v : Value} {Φ : Value → World → Prop} (hr : ∀ a, Sat ⟨n, []⟩ a env → (results fn a.tmps).run P w = .ok v w) (h : Φ v w) : wpX .normal (bodyPost P fn (RetPost Φ)) ⟨n, []⟩ env w :=
 fun a ha => bodyPost_end (hr a ha) ha.defers ⟨v, rfl, h⟩
theorem run_res1 {fn : Func} {n t : Nat} {v : Value} (hres : fn.results = #[.tmp t]) (hv : look env t = some v) (a : Act) (ha : Sat ⟨n, []⟩ a env) : (results fn a.tmps).run P w = .ok v w := by
 rw [results_tmp hres]; simp [ha.get t v hv]
theorem ret1 {fn : Func} {n t : Nat} {v : Value} {Φ : Value → World → Prop} (hres : fn.results = #[.tmp t]) (hv : look env t = some v) (h : Φ v w) : wpX .ret (bodyPost P fn (RetPost Φ)) ⟨n, []⟩ env w :=
 retG (run_res1 hres hv) h
theorem ret2 {fn : Func} {n t u : Nat} {v1 v2 : Value} {Φ : Value → World → Prop} (hres : fn.results = #[.tmp t, .tmp u]) (h1 : look env t = some v1) (h2 : look env u = some v2) (h : Φ (.tuple #[v1, v2]) w) : wpX .ret (bodyPost P fn (RetPost Φ)) ⟨n, []⟩ env w :=
 retG (fun a ha => by rw [results_tmp2 hres]; simp [ha.get t v1 h1, ha.get u v2 h2]) h
theorem ret3 {fn : Func} {n t u r : Nat} {v1 v2 v3 : Value} {Φ : Value → World → Prop} (hres : fn.results = #[.tmp t, .tmp u, .tmp r]) (h1 : look env t = some v1) (h2 : look env u = some v2) (h3 : look env r = some v3) (h : Φ (.tuple #[v1, v2, v3]) w) : wpX .ret (bodyPost P fn (RetPost Φ)) ⟨n, []⟩ env w :=
 retG (fun a ha => by simp [results, hres, ha.get t v1 h1, ha.get u v2 h2, ha.get r v3 h3]) h
theorem end0 {fn : Func} {n : Nat} {Φ : Value → World → Prop} (hres : fn.results = #[]) (h : Φ (.tuple #[]) w) : wpX .normal (bodyPost P fn (RetPost Φ)) ⟨n, []⟩ env w :=
 endG (fun a _ => results_none hres a.tmps P w) h
theorem ret0 {fn : Func} {n : Nat} {Φ : Value → World → Prop} (hres : fn.results = #[]) (h : Φ (.tuple #[]) w) : wpX .ret (bodyPost P fn (RetPost Φ)) ⟨n, []⟩ env w :=
 retG (fun a _ => results_none hres a.tmps P w) h
end
end Go.Proofs.YtajklleiifhipaaGreatDoor.Sym
namespace Go.Proofs.YtajklleiifhipaaGreatDoor.Sym
section
variable {P : Program} {ops : Array Oper} {Q Q' : Exit → Act → World → Prop} {s : St} {env : Env} {w : World} {rest : List Oper} {d : Nat} {ty : TypeId} {pos : String} {aft : Array Edge} {d2 : Nat} {ty2 : TypeId} {pos2 : String} {aft2 : Array Edge}
theorem Ka {y : Code} (h : wpC P y Q s env w) : wpE P ops (Exit.then (y.wp P Q) Q') s [] env w := E.nil (X.next h)
theorem Kk {y : Code} (h : wpC P y Q s env w) : wpC P .skip (Exit.then (y.wp P Q) Q') s env w := C.skip (X.next h)
theorem Kx {id : Nat} {K K' : Act → World → Prop} {y : Code} (h : wpC P y Q s env w) : wpC P (.exit id) (Exit.then K (Exit.then K' (Exit.inBlock id (Exit.then (y.wp P Q) Q')))) s env w := C.exit (X.exitT (X.exitT (X.outE (X.next h))))
theorem S1 {v : Value} (h : look env d = some v) : Sub [(d, v)] env := Sub.cons h (Sub.nil _)
theorem Kb {id : Nat} {l : List Oper} {y : Code} (h : wpE P l.toArray (Exit.then (y.wp P Q) Q) s l env w) : wpC P (.seq (.region id l.toArray false) y) Q s env w := C.seq (C.region h)
theorem Ke {id : Nat} {l : List Oper} {y : Code} (h : wpE P l.toArray (Exit.then (y.wp P Q) Q) s l env w) : wpE P ops (Exit.then ((Code.seq (.region id l.toArray false) y).wp P Q) Q') s [] env w := Ka (Kb h)
theorem Km {x : Operand} {v : Value} (hx : (ev env x, Nat.blt d s.n) = (some v, true)) (h : wpE P ops Q s rest ((d, v) :: env) w) : wpE P ops Q s (⟨some d, .move x, ty, pos, aft, none⟩ :: rest) env w := E.mv (congrArg Prod.fst hx) (congrArg Prod.snd hx) h
theorem Kn {x : Operand} {v : Value} (hx : (ev env x, Nat.blt d s.n) = (some v, true)) (h : wpE P ops Q s rest ((d, v) :: env) w) : wpE P ops Q s (⟨some d, .assign x, ty, pos, aft, none⟩ :: rest) env w := E.asg (congrArg Prod.fst hx) (congrArg Prod.snd hx) h
theorem Kc {x : Operand} {v : Value} {y : Code} (hx : (ev env x, Nat.blt d s.n) = (some v, true)) (h : wpC P y Q s ((d, v) :: env) w) : wpE P ops (Exit.then (y.wp P Q) Q') s [⟨some d, .assign x, ty, pos, aft, none⟩] env w := Kn hx (Ka h)
theorem Kd {x : Operand} {v : Value} {id : Nat} {l : List Oper} {y : Code} (hx : (ev env x, Nat.blt d s.n) = (some v, true)) (h : wpE P l.toArray (Exit.then (y.wp P Q) Q) s l ((d, v) :: env) w) : wpE P ops (Exit.then ((Code.seq (.region id l.toArray false) y).wp P Q) Q') s [⟨some d, .assign x, ty, pos, aft, none⟩] env w := Kn hx (Ke h)
theorem Kf {x y : Operand} {v u : Value} (hx : (ev env x, Nat.blt d s.n, ev ((d, v) :: env) y, Nat.blt d2 s.n) = (some v, true, some u, true)) (h : wpE P ops Q s rest ((d2, u) :: (d, v) :: env) w) : wpE P ops Q s (⟨some d, .move x, ty, pos, aft, none⟩ :: ⟨some d2, .move y, ty2, pos2, aft2, none⟩ :: rest) env w := by
  injection hx with a b
  injection b with b c
  injection c with c e
  exact E.mv a b (E.mv c e h)
theorem Kp {op : BinOp} {t t2 : TypeId} {x y : Operand} {k : IntKind} {a b : Int} {v : Value} (hx : (ev env x, ev env y, iop op k a b, Nat.blt d s.n) = (some (.int k a), some (.int k b), some v, true)) (h : wpE P ops Q s rest ((d, v) :: env) w) : wpE P ops Q s (⟨some d, .binOp op t x y t2, ty, pos, aft, none⟩ :: rest) env w := by
  injection hx with a b
  injection b with b c
  injection c with c e
  exact E.bin a b c e h
theorem Kq {op : Op} {j sl : Nat} {b c : Bool} (hx : ((ops[j]?).bind (·.dst), look env sl, (c == b), Nat.blt d s.n) = (some sl, some (.bool c), false, true)) (h : wpE P ops Q s rest ((d, undef) :: env) w) : wpE P ops Q s (⟨some d, op, ty, pos, aft, some (j, b)⟩ :: rest) env w := by
  injection hx with a b
  injection b with b c
  injection c with c e
  exact E.off a b c e h
theorem Kr {c x y : Operand} {b : Bool} {v : Value} (hx : (ev env c, (bif b then ev env x else ev env y), Nat.blt d s.n) = (some (.bool b), some v, true)) (h : wpE P ops Q s rest ((d, v) :: env) w) : wpE P ops Q s (⟨some d, .pick c x y, ty, pos, aft, none⟩ :: rest) env w := by
  injection hx with a b
  injection b with b c
  exact E.pick a b c h
theorem Ko {dst : Option Nat} {op : Op} {j sl : Nat} {b : Bool} (hx : ((ops[j]?).bind (·.dst), look env sl) = (some sl, some (.bool b))) (h : wpE P ops Q s (⟨dst, op, ty, pos, aft, none⟩ :: rest) env w) : wpE P ops Q s (⟨dst, op, ty, pos, aft, some (j, b)⟩ :: rest) env w := by
  injection hx with a b
  exact E.on a b h
end
end Go.Proofs.YtajklleiifhipaaGreatDoor.Sym
namespace Go.Proofs.YtajklleiifhipaaGreatDoor.Sym
open Go.RowKit
section
variable {P : Program} {ops : Array Oper} {Q : Exit → Act → World → Prop} {s : St} {env : Env} {w : World} {rest : List Oper}
variable {d : Nat} {ty : TypeId} {pos : String} {aft : Array Edge}
theorem E.add {t t2 : TypeId} {x y : Operand} {a b : Int} (hx : ev env x = some (.int .i64 a)) (hy : ev env y = some (.int .i64 b)) (hr : -9223372036854775808 ≤ a + b ∧ a + b ≤ 9223372036854775807)
  (hd : Nat.blt d s.n = true) (h : wpE P ops Q s rest ((d, .int .i64 (a + b)) :: env) w) : wpE P ops Q s (⟨some d, .binOp .add t x y t2, ty, pos, aft, none⟩ :: rest) env w :=
 E.bin hx hy (v := .int .i64 (a + b)) (by simp only [iop]; rw [IntWalk.i64_in _ hr]) hd h
theorem E.sub' {t t2 : TypeId} {x y : Operand} {a b : Int} (hx : ev env x = some (.int .i64 a)) (hy : ev env y = some (.int .i64 b)) (hr : -9223372036854775808 ≤ a - b ∧ a - b ≤ 9223372036854775807)
  (hd : Nat.blt d s.n = true) (h : wpE P ops Q s rest ((d, .int .i64 (a - b)) :: env) w) : wpE P ops Q s (⟨some d, .binOp .sub t x y t2, ty, pos, aft, none⟩ :: rest) env w :=
 E.bin hx hy (v := .int .i64 (a - b)) (by simp only [iop]; rw [IntWalk.i64_in _ hr]) hd h
theorem E.mul {t t2 : TypeId} {x y : Operand} {a b : Int} (hx : ev env x = some (.int .i64 a)) (hy : ev env y = some (.int .i64 b)) (hr : -9223372036854775808 ≤ a * b ∧ a * b ≤ 9223372036854775807)
  (hd : Nat.blt d s.n = true) (h : wpE P ops Q s rest ((d, .int .i64 (a * b)) :: env) w) : wpE P ops Q s (⟨some d, .binOp .mul t x y t2, ty, pos, aft, none⟩ :: rest) env w :=
 E.bin hx hy (v := .int .i64 (a * b)) (by simp only [iop]; rw [IntWalk.i64_in _ hr]) hd h
theorem E.binw {op : BinOp} {t t2 : TypeId} {x y : Operand} {k : IntKind} {a b : Int} {v v' : Value} (hx : ev env x = some (.int k a)) (hy : ev env y = some (.int k b)) (hv : iop op k a b = some v) (he : v = v')
  (hd : Nat.blt d s.n = true) (h : wpE P ops Q s rest ((d, v') :: env) w) : wpE P ops Q s (⟨some d, .binOp op t x y t2, ty, pos, aft, none⟩ :: rest) env w :=
 E.bin hx hy (hv.trans (congrArg some he)) hd h
theorem E.quo {t t2 : TypeId} {x y : Operand} {k : IntKind} {a b c : Int} (hx : ev env x = some (.int k a)) (hy : ev env y = some (.int k b)) (hb : b ≠ 0) (hr : k.wrap (a.tdiv b) = c)
  (hd : Nat.blt d s.n = true) (h : wpE P ops Q s rest ((d, .int k c) :: env) w) : wpE P ops Q s (⟨some d, .binOp .quo t x y t2, ty, pos, aft, none⟩ :: rest) env w :=
 E.op (fun a ha => by simp [execOp, ha.ev hx, ha.ev hy, eqGuard, binOp, Op.intDiv, hb, hr]) hd h
theorem E.rem {t t2 : TypeId} {x y : Operand} {k : IntKind} {a b c : Int} (hx : ev env x = some (.int k a)) (hy : ev env y = some (.int k b)) (hb : b ≠ 0) (hr : a.tmod b = c)
  (hd : Nat.blt d s.n = true) (h : wpE P ops Q s rest ((d, .int k c) :: env) w) : wpE P ops Q s (⟨some d, .binOp .rem t x y t2, ty, pos, aft, none⟩ :: rest) env w :=
 E.op (fun a ha => by simp [execOp, ha.ev hx, ha.ev hy, eqGuard, binOp, Op.intDiv, hb, hr]) hd h
theorem E.shl {t t2 : TypeId} {x y : Operand} {k yk : IntKind} {a b c : Int} (hx : ev env x = some (.int k a)) (hy : ev env y = some (.int yk b)) (hb : 0 ≤ b) (hr : k.wrap (a * 2 ^ min b.toNat k.bits) = c)
  (hd : Nat.blt d s.n = true) (h : wpE P ops Q s rest ((d, .int k c) :: env) w) : wpE P ops Q s (⟨some d, .binOp .shl t x y t2, ty, pos, aft, none⟩ :: rest) env w :=
 E.op (fun a ha => by
  have hb' : ¬ b < 0 := by omega
  simp [execOp, ha.ev hx, ha.ev hy, eqGuard, binOp, Op.shift, hb', hr]) hd h
theorem E.shr {t t2 : TypeId} {x y : Operand} {k yk : IntKind} {a b c : Int} (hx : ev env x = some (.int k a)) (hy : ev env y = some (.int yk b)) (hb : 0 ≤ b) (hr : a / 2 ^ min b.toNat k.bits = c)
  (hd : Nat.blt d s.n = true) (h : wpE P ops Q s rest ((d, .int k c) :: env) w) : wpE P ops Q s (⟨some d, .binOp .shr t x y t2, ty, pos, aft, none⟩ :: rest) env w :=
 E.op (fun a' ha => by
  have hs := shift_shr_any k yk a b hb
  simp [execOp, ha.ev hx, ha.ev hy, eqGuard, binOp, hs, hr]) hd h
theorem E.conv {x : Operand} {src dst : TypeId} {ds : TypeDesc} {k0 k : IntKind} {a c : Int} (hx : ev env x = some (.int k0 a)) (hs : P.underlying src = some ds) (ht : P.underlying dst = some (.int k)) (hr : k.wrap a = c)
  (hd : Nat.blt d s.n = true) (h : wpE P ops Q s rest ((d, .int k c) :: env) w) : wpE P ops Q s (⟨some d, .convert src dst x, ty, pos, aft, none⟩ :: rest) env w :=
 E.op (fun a ha => by simp [execOp, ha.ev hx, convert, run_underlying hs, run_underlying ht, Conv.intToInt, hr]) hd h
theorem E.not {x : Operand} {t : TypeId} {b : Bool} (hx : ev env x = some (.bool b)) (hd : Nat.blt d s.n = true) (h : wpE P ops Q s rest ((d, .bool (!b)) :: env) w) : wpE P ops Q s (⟨some d, .unOp .not t x, ty, pos, aft, none⟩ :: rest) env w :=
 E.op (fun a ha => by simp [execOp, ha.ev hx, Op.unary]) hd h
theorem E.flip {x : Operand} {t : TypeId} {k : IntKind} {a c : Int} (hx : ev env x = some (.int k a)) (hr : bits .xor k (if k.signed then -1 else k.max) a = c) (hd : Nat.blt d s.n = true) (h : wpE P ops Q s rest ((d, .int k c) :: env) w) : wpE P ops Q s (⟨some d, .unOp .xor t x, ty, pos, aft, none⟩ :: rest) env w :=
 E.op (fun a' ha => by
  have : (Op.unary .xor (.int k a)).run P w = .ok (.int k c) w := by rw [unary_xor, ← hr]; rfl
  simp [execOp, ha.ev hx, this]) hd h
theorem E.neb {t t2 : TypeId} {x y : Operand} {a b : Bool} (hx : ev env x = some (.bool a)) (hy : ev env y = some (.bool b)) (ht : P.underlying t = some .bool)
  (hd : Nat.blt d s.n = true) (h : wpE P ops Q s rest ((d, .bool (!(a == b))) :: env) w) : wpE P ops Q s (⟨some d, .binOp .neq t x y t2, ty, pos, aft, none⟩ :: rest) env w :=
 E.op (fun a' ha => by
  have h1 := run_equal_bool (P := P) w t a b ht
  have h2 : (binOp .neq t (.bool a) (.bool b)).run P w = .ok (.bool (!(a == b))) w := by simp only [binOp]; simp [h1]
  simp only [execOp, ha.ev hx, ha.ev hy, eqGuard]
  simp [h2]) hd h
theorem E.ext {x : Operand} {i : Nat} {vs : List Value} {v : Value} (hx : ev env x = some (.tuple vs.toArray)) (hv : vs[i]? = some v) (hd : Nat.blt d s.n = true) (h : wpE P ops Q s rest ((d, v) :: env) w) : wpE P ops Q s (⟨some d, .extract x i, ty, pos, aft, none⟩ :: rest) env w :=
 E.op (fun a ha => by simp [execOp, ha.ev hx, Instr.extract, hv]) hd h
theorem E.min2 {ats : Array TypeId} {x y : Operand} {k : IntKind} {a b : Int} (hx : ev env x = some (.int k a)) (hy : ev env y = some (.int k b)) 
  (hd : Nat.blt d s.n = true) (h : wpE P ops Q s rest ((d, .int k (min a b)) :: env) w) : wpE P ops Q s (⟨some d, .call ⟨.builtin .min, #[x, y], ats⟩, ty, pos, aft, none⟩ :: rest) env w :=
 E.op (fun a' ha => by
  have e : (if b < a then b else a) = min a b := by rw [Int.min_def]; split <;> split <;> omega
  simp [execOp, resolve, invoke, builtin, Builtin.min_, Builtin.min2, ha.ev hx, ha.ev hy, e]) hd h
theorem E.max2 {ats : Array TypeId} {x y : Operand} {k : IntKind} {a b : Int} (hx : ev env x = some (.int k a)) (hy : ev env y = some (.int k b)) 
  (hd : Nat.blt d s.n = true) (h : wpE P ops Q s rest ((d, .int k (max a b)) :: env) w) : wpE P ops Q s (⟨some d, .call ⟨.builtin .max, #[x, y], ats⟩, ty, pos, aft, none⟩ :: rest) env w :=
 E.op (fun a' ha => by
  have e : (if b > a then b else a) = max a b := by rw [Int.max_def]; split <;> split <;> omega
  simp [execOp, resolve, invoke, builtin, Builtin.max_, Builtin.max2, ha.ev hx, ha.ev hy, e]) hd h
end
end Go.Proofs.YtajklleiifhipaaGreatDoor.Sym
namespace Go.Proofs.YtajklleiifhipaaGreatDoor.Sym
open Go.RowKit
abbrev Ext (w w' : World) : Prop := Below w.heap.size w w'
theorem Ext.refl (w : World) : Ext w w := Below.refl _ _
theorem Ext.trans {a b c : World} (h : Ext a b) (k : Ext b c) : Ext a c := Below.trans h (k.mono h.size)
theorem Ext.alloc {a w : World} (h : Ext a w) (o : Obj) : Ext a (w.alloc o) := Below.alloc h h.size o
theorem Ext.new (w : World) (o : Obj) : Ext w (w.alloc o) := (Ext.refl w).alloc o
theorem Ext.drew {a w : World} (h : Ext a w) : Ext a w.drew := Below.drew h
theorem Ext.grown {a w w' : World} {row : Option Nat} (h : Ext a w) (hg : w.grownBy w' row) (hr : ∀ k, row = some k → a.heap.size ≤ k) : Ext a w' := Below.grown h hg h.size hr
theorem Ext.heap {w w' : World} (h : Ext w w') {b : Nat} {o : Obj} (hb : w.heap[b]? = some o) : w'.heap[b]? = some o := by
 rw [h.block b (Array.getElem?_eq_some_iff.1 hb).1]; exact hb
def At (w : World) (b off : Nat) (cs : List Value) : Prop := ∀ j u, cs[j]? = some u → w.cell? ⟨b, off + j, none⟩ = some u
theorem At.ext {w w' : World} {b off : Nat} {cs : List Value} (h : At w b off cs) (k : Ext w w') : At w' b off cs := fun j u hu => by
 have h1 := h j u hu
 rw [k.cell (World.block_lt_of_cell? w ⟨b, off + j, none⟩ h1)]; exact h1
def bs (v : Value) : Nat × Nat := match v with | .slice (some a) _ _ => (a.block, a.off) | _ => (0, 0)
def el (v : Value) (j : Nat) : Addr := ⟨(bs v).1, (bs v).2 + j, none⟩
def Rd (w : World) (sz : Nat) (v : Value) (n : Nat) (cs : List Value) : Prop :=
 ∃ a cap, v = .slice a n cap ∧ n ≤ cap ∧ cap ≤ maxLen ∧ cs.length = n * sz ∧ (0 < cs.length → (∃ b off, a = some ⟨b, off, none⟩)) ∧ At w (bs v).1 (bs v).2 cs
theorem Rd.ext {w w' : World} {sz n : Nat} {v : Value} {cs : List Value} (h : Rd w sz v n cs) (k : Ext w w') : Rd w' sz v n cs := by
 obtain ⟨a, cap, h1, h2, h3, h4, h5, h6⟩ := h
 exact ⟨a, cap, h1, h2, h3, h4, h5, h6.ext k⟩
theorem Rd.le {w : World} {sz n : Nat} {v : Value} {cs : List Value} (h : Rd w sz v n cs) : n ≤ 9223372036854775807 := by
 obtain ⟨a, cap, h1, h2, h3, _⟩ := h
 unfold maxLen at h3; omega
theorem Rd.cell {w : World} {sz n : Nat} {v : Value} {cs : List Value} (h : Rd w sz v n cs) {j : Nat} {u : Value} (hu : cs[j]? = some u) : w.cell? (el v j) = some u := by
 obtain ⟨a, cap, h1, h2, h3, h4, h5, h6⟩ := h
 exact h6 j u hu
theorem Rd.shape {w : World} {sz n : Nat} {v : Value} {cs : List Value} (h : Rd w sz v n cs) : ∃ a cap, v = .slice a n cap := by
 obtain ⟨a, cap, h1, _⟩ := h; exact ⟨a, cap, h1⟩
def RdL {α : Type} (enc : α → Value) (w : World) (v : Value) (l : List α) : Prop := Rd w 1 v l.length (l.map enc)
theorem RdL.ext {α : Type} {enc : α → Value} {w w' : World} {v : Value} {l : List α} (h : RdL enc w v l) (k : Ext w w') : RdL enc w' v l := Rd.ext h k
theorem RdL.cell {α : Type} {enc : α → Value} {w : World} {v : Value} {l : List α} (h : RdL enc w v l) {j : Nat} (hj : j < l.length) : w.cell? (el v j) = some (enc l[j]) :=
 Rd.cell h (by simp [hj])
abbrev u8 (c : UInt8) : Value := .int .u8 (c.toNat : Int)
abbrev i64 (n : Int) : Value := .int .i64 n
def Blk (w : World) (b : Nat) (T : TypeId) (arr : Array Value) : Prop := w.heap[b]? = some (.cells arr T (0, 0))
theorem Blk.lt {w : World} {b : Nat} {T : TypeId} {arr : Array Value} (h : Blk w b T arr) : b < w.heap.size := (Array.getElem?_eq_some_iff.1 h).1
theorem Blk.cell {w : World} {b : Nat} {T : TypeId} {arr : Array Value} (h : Blk w b T arr) (j : Nat) : w.cell? ⟨b, j, none⟩ = arr[j]? := cell_of_row w b j arr T (0, 0) h
theorem Blk.frozen {w : World} {b : Nat} {T : TypeId} {arr : Array Value} (h : Blk w b T arr) (j : Nat) : w.frozen? ⟨b, j, none⟩ = false := frozen_of_row w b j arr T h
theorem Blk.ext {w w' : World} {b : Nat} {T : TypeId} {arr : Array Value} (h : Blk w b T arr) (k : Ext w w') : Blk w' b T arr := Ext.heap k h
theorem Blk.new (w : World) (T : TypeId) (arr : Array Value) : Blk (w.alloc (.cells arr T)) w.heap.size T arr := heap_alloc_new w _
theorem Blk.alloc {w : World} {b : Nat} {T : TypeId} {arr : Array Value} (h : Blk w b T arr) (o : Obj) : Blk (w.alloc o) b T arr := h.ext (Ext.new w o)
theorem Blk.set {w : World} {b : Nat} {T : TypeId} {arr : Array Value} (h : Blk w b T arr) (j : Nat) (u : Value) : Blk (w.setCell ⟨b, j, none⟩ u) b T (arr.setIfInBounds j u) := heap_setCell_same w b j arr T u h
theorem Blk.setOther {w : World} {b : Nat} {T : TypeId} {arr : Array Value} (h : Blk w b T arr) {p : Addr} (hne : b ≠ p.block) (u : Value) : Blk (w.setCell p u) b T arr := by
 unfold Blk; rw [heap_setCell_other w p b u hne]; exact h
theorem Blk.at {w : World} {b : Nat} {T : TypeId} {arr : Array Value} (h : Blk w b T arr) (off : Nat) (cs : List Value) (hc : ∀ j u, cs[j]? = some u → arr[off + j]? = some u) : At w b off cs := fun j u hu => by
 rw [h.cell]; exact hc j u hu
theorem Ext.setCell {a w : World} (h : Ext a w) {p : Addr} (hp : a.heap.size ≤ p.block) (u : Value) : Ext a (w.setCell p u) := Below.setCell h hp u
def splice (cur : Array Value) (off : Nat) (new : List Value) : Array Value := (cur.toList.take off ++ new ++ cur.toList.drop (off + new.length)).toArray
theorem splice_all (cur : Array Value) (new : List Value) (h : cur.size = new.length) : splice cur 0 new = new.toArray := by
 have : List.drop new.length cur.toList = [] := List.drop_eq_nil_of_le (by simp [h])
 simp [splice, this]
theorem Blk.setRow {w : World} {b : Nat} {T : TypeId} {arr : Array Value} (h : Blk w b T arr) (new : Array Value) : Blk (w.setRow b new) b T new := setRow_heap w b arr new T _ h
theorem setRow_alloc (w : World) (z cs : Array Value) (t : TypeId) : (w.alloc (.cells z t)).setRow w.heap.size cs = w.alloc (.cells cs t) := by
  have h : ((w.alloc (.cells z t)).setRow w.heap.size cs).heap = (w.alloc (.cells cs t)).heap := by
    apply Array.ext_getElem?
    intro i
    by_cases e : i = w.heap.size
    · subst e
      rw [setRow_heap _ _ z cs t (0, 0) (heap_alloc_new w _), heap_alloc_new]
    rw [setRow_other _ _ _ _ e]
    show (w.heap.push _)[i]? = (w.heap.push _)[i]?
    rw [Array.getElem?_push, Array.getElem?_push, if_neg e, if_neg e]
  show ({ w with heap := ((w.alloc (.cells z t)).setRow w.heap.size cs).heap } : World) = _
  rw [h]; rfl
theorem Ext.setRow {a w : World} (h : Ext a w) {b : Nat} (hp : a.heap.size ≤ b) (new : Array Value) : Ext a (w.setRow b new) :=
 Below.trans h ⟨rfl, rfl, rfl, by simp, fun k hk => setRow_other w b k new (by omega)⟩
section
variable {P : Program} {ops : Array Oper} {Q : Exit → Act → World → Prop} {s : St} {env : Env} {w : World} {rest : List Oper}
variable {d : Nat} {ty : TypeId} {pos : String} {aft : Array Edge}
theorem E.len {t e : TypeId} {x : Operand} {sz n : Nat} {v : Value} {cs : List Value} (hx : ev env x = some v) (hR : Rd w sz v n cs) (ht : P.underlying t = some (.slice e)) (hd : Nat.blt d s.n = true)
  (h : wpE P ops Q s rest ((d, .int .i64 (n : Int)) :: env) w) : wpE P ops Q s (⟨some d, .call ⟨.builtin .len, #[x], #[t]⟩, ty, pos, aft, none⟩ :: rest) env w := by
 obtain ⟨a, cap, rfl⟩ := hR.shape
 exact E.op (fun a' ha => by simp [execOp, resolve, invoke, builtin, Builtin.len_, run_underlying ht, goInt, ha.ev hx]) hd h
theorem E.lenv {t e : TypeId} {x : Operand} {n : Nat} {v : Value} (hx : ev env x = some v) (hR : ∃ a cap, v = .slice a n cap) (ht : P.underlying t = some (.slice e)) (hd : Nat.blt d s.n = true)
  (h : wpE P ops Q s rest ((d, .int .i64 (n : Int)) :: env) w) : wpE P ops Q s (⟨some d, .call ⟨.builtin .len, #[x], #[t]⟩, ty, pos, aft, none⟩ :: rest) env w := by
 obtain ⟨a, cap, rfl⟩ := hR
 exact E.op (fun a' ha => by simp [execOp, resolve, invoke, builtin, Builtin.len_, run_underlying ht, goInt, ha.ev hx]) hd h
theorem E.lenS {t : TypeId} {x : Operand} {b : ByteArray} (hx : ev env x = some (.string b)) (ht : P.underlying t = some .string) (hd : Nat.blt d s.n = true)
  (h : wpE P ops Q s rest ((d, .int .i64 (b.size : Int)) :: env) w) : wpE P ops Q s (⟨some d, .call ⟨.builtin .len, #[x], #[t]⟩, ty, pos, aft, none⟩ :: rest) env w :=
 E.op (fun a' ha => by simp [execOp, resolve, invoke, builtin, Builtin.len_, run_underlying ht, goInt, ha.ev hx]) hd h
theorem addr_add (b off k : Nat) : (⟨b, off, none⟩ : Addr).add k = ⟨b, off + k, none⟩ := by
 unfold Addr.add; split
 · rename_i h; subst h; rfl
 rfl
theorem E.idx {t e : TypeId} {x ix : Operand} {k : IntKind} {i : Int} {sz n : Nat} {v : Value} {cs : List Value} (hx : ev env x = some v) (hi : ev env ix = some (.int k i)) (hR : Rd w sz v n cs)
  (ht : P.underlying t = some (.slice e)) (hs : (P.info? e).map (·.size) = some sz) (h0 : 0 ≤ i) (h1 : i < n) (hsz : 0 < sz) (hd : Nat.blt d s.n = true)
  (h : wpE P ops Q s rest ((d, .pointer (some (el v (i.toNat * sz)))) :: env) w) : wpE P ops Q s (⟨some d, .indexAddr t x ix, ty, pos, aft, none⟩ :: rest) env w := by
 obtain ⟨a, cap, rfl, hc1, hc2, hl, ha0, hat⟩ := hR
 have hpos : 0 < cs.length := by rw [hl]; exact Nat.mul_pos (by omega) hsz
 obtain ⟨b, off, rfl⟩ := ha0 hpos
 refine E.op (fun a' ha => ?_) hd h
 cases hq : P.info? e with
 | none => simp [hq] at hs
 | some inf =>
  have hs' : inf.size = sz := by simpa [hq] using hs
  simp [execOp, ha.ev hx, ha.ev hi, Instr.indexAt, asIntOf, run_underlying ht, sizeOf, typeInfo, hq, hs', h0, h1, addr_add, el, bs]
theorem E.load {t : TypeId} {x : Operand} {ad : Addr} {u : Value} {ds : TypeDesc} (hx : ev env x = some (.pointer (some ad))) (ht : P.underlying t = some ds) (hna : (match ds with | .struct _ | .array _ _ => true | _ => false) = false)
  (hc : w.cell? ad = some u) (hd : Nat.blt d s.n = true) (h : wpE P ops Q s rest ((d, u) :: env) w) : wpE P ops Q s (⟨some d, .load t x, ty, pos, aft, none⟩ :: rest) env w :=
 E.op (fun a' ha => by
  have hagg : (isAgg t).run P w = .ok false w := by
   unfold isAgg
   rw [Sem.run_bind, run_underlying ht w]
   cases ds <;> simp_all
  simp [execOp, ha.ev hx, Instr.loadAt, Instr.sureAddr, loadVar, hagg, hc]) hd h
theorem E.loadA {t : TypeId} {x : Operand} {b off : Nat} {cs : List Value} {ds : TypeDesc} (hx : ev env x = some (.pointer (some ⟨b, off, none⟩))) (ht : P.underlying t = some ds) (hna : (match ds with | .struct _ | .array _ _ => true | _ => false) = true)
  (hs : (P.info? t).map (·.size) = some cs.length) (hc : At w b off cs) (hd : Nat.blt d s.n = true) (h : wpE P ops Q s rest ((d, .agg cs.toArray) :: env) w) : wpE P ops Q s (⟨some d, .load t x, ty, pos, aft, none⟩ :: rest) env w :=
 E.op (fun a' ha => by
  have hagg : (isAgg t).run P w = .ok true w := by
   unfold isAgg
   rw [Sem.run_bind, run_underlying ht w]
   cases ds <;> simp_all
  have hl : (loadCells ⟨b, off, none⟩ cs.length).run P w = .ok cs.toArray w := run_loadCells_list (P := P) w ⟨b, off, none⟩ cs (fun j v hv => by rw [addr_add]; exact hc j v hv)
  cases hq : P.info? t with
  | none => simp [hq] at hs
  | some inf =>
   have hs' : inf.size = cs.length := by simpa [hq] using hs
   simp [execOp, ha.ev hx, Instr.loadAt, Instr.sureAddr, loadVar, hagg, sizeOf, typeInfo, hq, hs', hl]) hd h
theorem E.store {t : TypeId} {x y : Operand} {ad : Addr} {u old : Value} (hx : ev env x = some (.pointer (some ad))) (hy : ev env y = some u) (hs : (P.info? t).map (·.size) = some 1) (h1 : u.oneCell' = true)
  (hc : w.cell? ad = some old) (hf : w.frozen? ad = false) (h : wpE P ops Q s rest env (w.setCell ad u)) : wpE P ops Q s (⟨none, .store t x y, ty, pos, aft, none⟩ :: rest) env w :=
 E.op0 (fun a' ha => by
  cases hq : P.info? t with
  | none => simp [hq] at hs
  | some inf =>
   have hs' : inf.size = 1 := by simpa [hq] using hs
   have hadd : ad.add 0 = ad := by simp [Addr.add]
   have hcs : u.cells = #[u] := by cases u <;> simp_all [Value.cells, Value.oneCell']
   simp only [execOp, ha.ev hx, ha.ev hy, Instr.storeAt, Instr.sureAddr, storeVar]
   cases u <;> simp_all [sizeOf, typeInfo, storeCells, Go.store, Sem.run, Value.oneCell']) h
theorem E.alloc {t : TypeId} {z : Value} (hz : (zeroValue t).run P w = .ok z w) (hd : Nat.blt d s.n = true) (h : wpE P ops Q s rest ((d, .pointer (some ⟨w.heap.size, 0, none⟩)) :: env) (w.alloc (.cells z.cells t))) : wpE P ops Q s (⟨some d, .alloc t, ty, pos, aft, none⟩ :: rest) env w :=
 E.op (fun a' ha => by simp [execOp, Instr.alloc, hz, newVar, newRow, newObj]; rfl) hd h
theorem E.box {t : TypeId} {x : Operand} {v : Value} (hx : ev env x = some v) (hd : Nat.blt d s.n = true) (h : wpE P ops Q s rest ((d, .pointer (some ⟨w.heap.size, 0, none⟩)) :: env) (w.alloc (.cells v.cells t))) : wpE P ops Q s (⟨some d, .box t x, ty, pos, aft, none⟩ :: rest) env w :=
 E.op (fun a' ha => by simp [execOp, Instr.box, newVar, newRow, newObj, ha.ev hx]; rfl) hd h
theorem E.get {α : Type} {enc : α → Value} {l : List α} {t e t2 ty2 : TypeId} {x ix : Operand} {kd : IntKind} {i : Int} {v : Value} {ds : TypeDesc} {d2 : Nat} {pos2 : String} {aft2 : Array Edge} (k : Nat)
  (hx : ev env x = some v) (hi : ev env ix = some (.int kd i)) (hR : RdL enc w v l) (hk : i = (k : Int)) (h1 : k < l.length)
  (ht : P.underlying t = some (.slice e)) (hs : (P.info? e).map (·.size) = some 1) (ht2 : P.underlying t2 = some ds) (hna : (match ds with | .struct _ | .array _ _ => true | _ => false) = false)
  (hd : Nat.blt d s.n = true) (hd2 : Nat.blt d2 s.n = true) (h : wpE P ops Q s rest ((d2, enc l[k]) :: (d, .pointer (some (el v k))) :: env) w) :
  wpE P ops Q s (⟨some d, .indexAddr t x ix, ty, pos, aft, none⟩ :: ⟨some d2, .load t2 (.tmp d), ty2, pos2, aft2, none⟩ :: rest) env w := by
 subst hk
 have e0 : (k : Int).toNat * 1 = k := by omega
 refine E.idx hx hi hR ht hs (by omega) (by omega) (by decide) hd ?_
 rw [e0]
 exact E.load (by show look _ d = _; rw [look_cons, if_pos rfl]) ht2 hna (hR.cell h1) hd2 h
theorem E.idxA {t e : TypeId} {x ix : Operand} {k : IntKind} {i : Int} {sz n b off : Nat} (hx : ev env x = some (.pointer (some ⟨b, off, none⟩))) (hi : ev env ix = some (.int k i))
  (ht : P.underlying t = some (.array n e)) (hs : (P.info? e).map (·.size) = some sz) (h0 : 0 ≤ i) (h1 : i < n) (hd : Nat.blt d s.n = true)
  (h : wpE P ops Q s rest ((d, .pointer (some ⟨b, off + i.toNat * sz, none⟩)) :: env) w) : wpE P ops Q s (⟨some d, .indexAddr t x ix, ty, pos, aft, none⟩ :: rest) env w := by
 refine E.op (fun a' ha => ?_) hd h
 cases hq : P.info? e with
 | none => simp [hq] at hs
 | some inf =>
  have hs' : inf.size = sz := by simpa [hq] using hs
  simp [execOp, ha.ev hx, ha.ev hi, Instr.indexAt, Instr.sureAddr, asIntOf, run_underlying ht, sizeOf, typeInfo, hq, hs', h0, h1, addr_add]
theorem E.storeA {t T : TypeId} {x y : Operand} {b off : Nat} {cs : List Value} {cur : Array Value} (hx : ev env x = some (.pointer (some ⟨b, off, none⟩))) (hy : ev env y = some (.agg cs.toArray)) (hs : (P.info? t).map (·.size) = some cs.length)
  (hb : Blk w b T cur) (hfit : off + cs.length ≤ cur.size) (h1 : ∀ u ∈ cs, u.oneCell' = true) (h : wpE P ops Q s rest env (w.setRow b (splice cur off cs))) : wpE P ops Q s (⟨none, .store t x y, ty, pos, aft, none⟩ :: rest) env w :=
 E.op0 (fun a' ha => by
  have hst := run_storeCells_at P b off T cs 0 cur w hb (by simpa using hfit) h1
  cases hq : P.info? t with
  | none => simp [hq] at hs
  | some inf =>
   have hs' : inf.size = cs.length := by simpa [hq] using hs
   simp only [Nat.add_zero] at hst
   simp [execOp, ha.ev hx, ha.ev hy, Instr.storeAt, Instr.sureAddr, storeVar, sizeOf, typeInfo, hq, hs', Value.cells, hst, splice]) h
theorem retA {fn : Func} {n t T : Nat} {ty : TypeId} {b : Nat} {cs : List Value} {ds : TypeDesc} {Φ : Value → World → Prop} (hres : fn.results = #[.cell t ty]) (hv : look env t = some (.pointer (some ⟨b, 0, none⟩)))
  (ht : P.underlying ty = some ds) (hna : (match ds with | .struct _ | .array _ _ => true | _ => false) = true) (hb : Blk w b T cs.toArray) (hs : (P.info? ty).map (·.size) = some cs.length) (h : Φ (.agg cs.toArray) w) :
  wpX .ret (bodyPost P fn (RetPost Φ)) ⟨n, []⟩ env w :=
 retG (fun a ha => results_cell_row hres a.tmps w b T cs.toArray (0, 0) ds (by simp [ha.get t _ hv]) hb ht hna (by simpa using hs)) h
end
end Go.Proofs.YtajklleiifhipaaGreatDoor.Sym
namespace Go.Proofs.YtajklleiifhipaaGreatDoor.Sym
open Go.RowKit
theorem grown_refl (w : World) (r : Option Nat) : w.grownBy w r := ⟨rfl, rfl, rfl, Nat.le_refl _, fun _ _ _ => rfl⟩
theorem grown_trans {a b c : World} {r : Option Nat} (h : a.grownBy b r) (k : b.grownBy c r) : a.grownBy c r :=
 ⟨k.os.trans h.os, k.tape.trans h.tape, k.output.trans h.output, Nat.le_trans h.size k.size, fun i hi hr => (k.block i (Nat.lt_of_lt_of_le hi h.size) hr).trans (h.block i hi hr)⟩
theorem Ext.toGrown {w w' : World} (h : Ext w w') (r : Option Nat) : w.grownBy w' r := ⟨h.os, h.tape, h.output, h.size, fun i hi _ => h.block i hi⟩
theorem grown_set (w : World) (p : Addr) (u : Value) : w.grownBy (w.setCell p u) (some p.block) :=
 ⟨rfl, rfl, rfl, by simp, fun k _ hk => heap_setCell_other w p k u (fun e => hk (by rw [e]))⟩
theorem Ext.ofGrown {a w w' : World} {b : Nat} (h : Ext a w) (g : w.grownBy w' (some b)) (hb : a.heap.size ≤ b) : Ext a w' := Ext.grown h g (fun k e => by cases e; exact hb)
theorem Rd.lt {w : World} {sz n : Nat} {v : Value} {cs : List Value} (h : Rd w sz v n cs) (hc : 0 < cs.length) : (bs v).1 < w.heap.size := by
 obtain ⟨u, hu⟩ : ∃ u, cs[0]? = some u := ⟨cs[0], by simp [hc]⟩
 exact World.block_lt_of_cell? w (el v 0) (h.cell hu)
theorem Rd.nil_other {w w' : World} {sz n : Nat} {v : Value} (h : Rd w sz v n []) : Rd w' sz v n [] := by
 obtain ⟨a, cap, h1, h2, h3, h4, h5, h6⟩ := h
 exact ⟨a, cap, h1, h2, h3, h4, h5, fun j u hu => by simp at hu⟩
def evp (env : Env) : List (Nat × Operand) → Option (List (Nat × Value))
 | [] => some []
 | x :: r => match ev env x.2, evp env r with
  | some v, some l => some ((x.1, v) :: l)
  | _, _ => none
theorem Sat.evp {s : St} {a : Act} {env : Env} (h : Sat s a env) : ∀ {xs : List (Nat × Operand)} {vs : List (Nat × Value)}, Sym.evp env xs = some vs → xs.map (fun x => (x.1, a.eval x.2)) = vs
 | [], vs, hx => by simp [Sym.evp] at hx; simp [hx]
 | x :: r, vs, hx => by
  unfold Sym.evp at hx
  cases h1 : Sym.ev env x.2 with
  | none => simp [h1] at hx
  | some v =>
   cases h2 : Sym.evp env r with
   | none => simp [h1, h2] at hx
   | some l =>
    simp [h1, h2] at hx
    subst hx
    simp only [List.map_cons, h.ev h1, h.evp h2]
section
variable {P : Program} {ops : Array Oper} {Q : Exit → Act → World → Prop} {s : St} {env : Env} {w : World} {rest : List Oper}
variable {d : Nat} {ty : TypeId} {pos : String} {aft : Array Edge}
theorem E.build {t : TypeId} {xs : List (Nat × Operand)} {vs : List (Nat × Value)} {cs : List Value} (hx : evp env xs = some vs) (hb : (Instr.build t vs.toArray).run P w = .ok (.agg cs.toArray) w)
  (hd : Nat.blt d s.n = true) (h : wpE P ops Q s rest ((d, .agg cs.toArray) :: env) w) : wpE P ops Q s (⟨some d, .build t xs.toArray, ty, pos, aft, none⟩ :: rest) env w :=
 E.op (fun a ha => by
  have e : (xs.toArray.map fun (i, x) => (i, a.eval x)) = vs.toArray := by rw [List.map_toArray, ← ha.evp hx]
  simp only [execOp]
  rw [e, Sem.run_bind, hb]; rfl) hd h
theorem E.buildS {t : TypeId} {n : Nat} {xs : List (Nat × Operand)} {vs : List (Nat × Value)} {e : TypeId} {cs : List Value} (hx : evp env xs = some vs) (hb : ∀ w, (Instr.buildSlice t n vs.toArray).run P w = .ok (.slice (some ⟨w.heap.size, 0, none⟩) n n) (w.alloc (.cells cs.toArray e)))
  (hd : Nat.blt d s.n = true) (h : wpE P ops Q s rest ((d, .slice (some ⟨w.heap.size, 0, none⟩) n n) :: env) (w.alloc (.cells cs.toArray e))) : wpE P ops Q s (⟨some d, .buildSlice t n xs.toArray, ty, pos, aft, none⟩ :: rest) env w :=
 E.op (fun a ha => by
  have e : (xs.toArray.map fun (i, x) => (i, a.eval x)) = vs.toArray := by rw [List.map_toArray, ← ha.evp hx]
  simp only [execOp]
  rw [e, Sem.run_bind, hb]; rfl) hd h
theorem Rd.made (w : World) (sz n : Nat) (e : TypeId) (cs : List Value) (fr : Nat × Nat) (hl : cs.length = n * sz) (hn : n ≤ maxLen) : Rd (w.alloc (.cells cs.toArray e fr)) sz (.slice (some ⟨w.heap.size, 0, none⟩) n n) n cs :=
 ⟨some ⟨w.heap.size, 0, none⟩, n, rfl, Nat.le_refl _, hn, hl, fun _ => ⟨_, _, rfl⟩, fun j u hu => by
  show (w.alloc _).cell? ⟨w.heap.size, 0 + j, none⟩ = _
  rw [Nat.zero_add, cell_of_row _ _ _ _ _ _ (heap_alloc_new w _), List.getElem?_toArray]; exact hu⟩
theorem E.nilc {x : Operand} {a : Addr} (hx : ev env x = some (.pointer (some a))) (hd : Nat.blt d s.n = true) (h : wpE P ops Q s rest ((d, .pointer (some a)) :: env) w) : wpE P ops Q s (⟨some d, .nilCheck x, ty, pos, aft, none⟩ :: rest) env w :=
 E.op (fun a' ha => by simp [execOp, ha.ev hx]) hd h
theorem E.eqnil {t t2 e : TypeId} {x y : Operand} {a : Option Addr} (hx : ev env x = some (.pointer a)) (hy : ev env y = some (.pointer none)) (ht : P.underlying t = some (.pointer e))
  (hd : Nat.blt d s.n = true) (h : wpE P ops Q s rest ((d, .bool a.isNone) :: env) w) : wpE P ops Q s (⟨some d, .binOp .eql t x y t2, ty, pos, aft, none⟩ :: rest) env w :=
 E.op (fun a' ha => by
  have h1 : (Op.equal t (.pointer a) (.pointer none)).run P w = .ok a.isNone w := by
   show (Op.equalIn (9999 + 1) t (.pointer a) (.pointer none)).run P w = _
   unfold Op.equalIn
   rw [Sem.run_bind, run_underlying ht]
   cases a <;> rfl
  have h2 : (binOp .eql t (.pointer a) (.pointer none)).run P w = .ok (.bool a.isNone) w := by simp only [binOp]; simp [h1]
  simp only [execOp, ha.ev hx, ha.ev hy, eqGuard]
  simp [h2]) hd h
theorem E.fld {t : TypeId} {x : Operand} {f o b off : Nat} {fs : Array Field} {fd : Field} {sz : Nat} (hx : ev env x = some (.pointer (some ⟨b, off, none⟩))) (ht : P.underlying t = some (.struct fs)) (hf : fs[f]? = some fd) (ho : fd.offset = o)
  (hs : (P.info? fd.type).map (·.size) = some (sz + 1)) (hd : Nat.blt d s.n = true) (h : wpE P ops Q s rest ((d, .pointer (some ⟨b, off + o, none⟩)) :: env) w) : wpE P ops Q s (⟨some d, .fieldAddr t x f, ty, pos, aft, none⟩ :: rest) env w :=
 E.op (fun a' ha => by
  subst ho
  cases hq : P.info? fd.type with
  | none => simp [hq] at hs
  | some inf =>
   have hs' : inf.size = sz + 1 := by simpa [hq] using hs
   simp [execOp, ha.ev hx, Instr.fieldAt, Instr.sureAddr, run_underlying ht, hf, fieldPlace, sizeOf, typeInfo, hq, hs', addr_add]) hd h
theorem Rd.part {sz n l h : Nat} {v : Value} {cs : List Value} {a : Option Addr} {cap : Nat} (hR : Rd w sz v n cs) (hv : v = .slice a n cap) (hl : l ≤ h) (hh : h ≤ n) :
    Rd w sz (.slice (if cap = l then a else a.map (·.add (l * sz))) (h - l) (cap - l)) (h - l) ((cs.drop (l * sz)).take ((h - l) * sz)) ∧ (bs (.slice (if cap = l then a else a.map (·.add (l * sz))) (h - l) (cap - l))).1 = (bs v).1 := by
  obtain ⟨a', cap', h1, h2, h3, h4, h5, h6⟩ := hR
  rw [hv] at h1
  obtain ⟨rfl, rfl⟩ : a = a' ∧ cap = cap' := by simpa using h1
  subst hv
  have hlen : ((cs.drop (l * sz)).take ((h - l) * sz)).length = (h - l) * sz := by
    have hle : h * sz ≤ n * sz := Nat.mul_le_mul_right _ hh
    have : (h - l) * sz = h * sz - l * sz := Nat.sub_mul ..
    simp only [List.length_take, List.length_drop, h4]; omega
  have hbs : (bs (.slice (if cap = l then a else a.map (·.add (l * sz))) (h - l) (cap - l))).1 = (bs (.slice a n cap)).1 := by
    split
    · cases a <;> rfl
    cases a with
    | none => rfl
    | some ad => simp only [Option.map_some, bs, Addr.add]; split <;> rfl
  refine ⟨⟨_, _, rfl, by omega, by unfold maxLen at *; omega, hlen, fun hpos => ?_, fun j u hu => ?_⟩, hbs⟩
  · rw [hlen] at hpos
    have hcs : 0 < cs.length := by
      rw [h4]
      exact Nat.lt_of_lt_of_le hpos (Nat.mul_le_mul_right _ (by omega))
    obtain ⟨b, off, rfl⟩ := h5 hcs
    split
    · exact ⟨_, _, rfl⟩
    exact ⟨b, off + l * sz, by rw [Option.map_some, addr_add]⟩
  have hu' : cs[l * sz + j]? = some u := by
    rw [List.getElem?_take] at hu
    split at hu
    · rw [List.getElem?_drop] at hu; exact hu
    cases hu
  have hj : j < (h - l) * sz := by
    have := (List.getElem?_eq_some_iff.1 hu).1
    rw [hlen] at this; exact this
  have hne : ¬ cap = l := by
    intro e
    have : h - l = 0 := by omega
    rw [this] at hj; simp at hj
  have hcs : 0 < cs.length := by have := (List.getElem?_eq_some_iff.1 hu').1; omega
  obtain ⟨b, off, rfl⟩ := h5 hcs
  have := h6 (l * sz + j) u hu'
  rw [if_neg hne, Option.map_some, addr_add]
  show w.cell? ⟨b, off + l * sz + j, none⟩ = some u
  rw [Nat.add_assoc]; exact this
theorem run_slice {t e : TypeId} {a : Option Addr} {n cap sz l h : Nat} {lo hi : Option Value} {k k' : IntKind} (ht : P.underlying t = some (.slice e)) (hs : (P.info? e).map (·.size) = some sz)
  (hlo : lo = some (.int k (l : Int)) ∨ (lo = none ∧ l = 0)) (hhi : hi = some (.int k' (h : Int)) ∨ (hi = none ∧ h = n)) (hl : l ≤ h) (hh : h ≤ n) (hc : n ≤ cap) :
  (Instr.sliceAt t (.slice a n cap) lo hi none).run P w = .ok (.slice (if cap = l then a else a.map (·.add (l * sz))) (h - l) (cap - l)) w := by
 cases hq : P.info? e with
 | none => simp [hq] at hs
 | some inf =>
  have hs' : inf.size = sz := by simpa [hq] using hs
  have b1 : h ≤ cap := by omega
  rcases hlo with rfl | ⟨rfl, rfl⟩ <;> rcases hhi with rfl | ⟨rfl, rfl⟩ <;>
   simp [Instr.sliceAt, Instr.slice, run_underlying ht, Instr.sliceBounds, Instr.sliceBound, asIntOf, sizeOf, typeInfo, hq, hs', b1, hl] <;> (try (split <;> first | rfl | omega))
end
def cutL {α : Type} (l h : Nat) (xs : List α) : List α := (xs.drop l).take (h - l)
theorem cutL_len {α : Type} (l h : Nat) (xs : List α) (hl : l ≤ h) (hh : h ≤ xs.length) : (cutL l h xs).length = h - l := by simp [cutL]; omega
theorem RdL.ofPart {α : Type} {enc : α → Value} {w : World} {v : Value} {xs : List α} {l h : Nat} (hl : l ≤ h) (hh : h ≤ xs.length) (hR : Rd w 1 v (h - l) (((xs.map enc).drop (l * 1)).take ((h - l) * 1))) : RdL enc w v (cutL l h xs) := by
 unfold RdL
 rw [cutL_len l h xs hl hh, cutL, List.map_take, List.map_drop]
 simpa using hR
end Go.Proofs.YtajklleiifhipaaGreatDoor.Sym
