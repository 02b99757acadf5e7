/- Texts of the claim, laid together: SymQ. -/
import Derived.Test.YtcmgbjmcklfkcaaDoorG2
/- The walk by named slots: regions that draw their order. For whatever program. Written by a program of mine (mkq.py) from the E-lemmas. -/
namespace Go.Proofs.YtcmgbjmcklfkcaaDoor.Sym
set_option linter.unusedSimpArgs false
set_option linter.unusedVariables false
open Go.RowKit

/-- whatever order is drawn: each operation yields one value in every world that has only grown -/
def wpQ (P : Program) (ops : Array Oper) (w : World) (Qn : Act → Prop) (s : St) (l : List Oper) (env : Env) : Prop := ∀ a, Sat s a env → wpQuiet P ops (Ext w) Qn l a
section
variable {P : Program} {ops : Array Oper} {Q : Exit → Act → World → Prop} {Qn : Act → Prop} {s : St} {env : Env} {w : World} {rest : List Oper}
variable {d : Nat} {ty : TypeId} {pos : String} {aft : Array Edge}

theorem C.drawn {id : Nat} {l : List Oper} (hm : P.follows .mixedOrders = true) (hB : Region.lexB .any l.toArray = true) (h : wpQ P l.toArray w (fun a' => ∀ w', Ext w w' → Q .normal a' w') s l env) : wpC P (.region id l.toArray true) Q s env w :=
  fun a ha => wp_region_quiet (C := Ext w) hm hB (Ext.refl w).drew (h a ha)
theorem Q.nil (h : ∀ w', Ext w w' → wpX .normal Q s env w') : wpQ P ops w (fun a' => ∀ w', Ext w w' → Q .normal a' w') s [] env := fun a ha => wpQuiet_nil fun w' hw' => h w' hw' a ha
theorem wpQuiet_one {o : Oper} {a : Act} (hg : o.guard = none) (h : o.quiet P a (Ext w) (wpQuiet P ops (Ext w) Qn rest)) : wpQuiet P ops (Ext w) Qn (o :: rest) a := by
  unfold wpQuiet
  rw [if_pos (by simp [Region.wanted, hg])]; exact h
theorem Q.op {op : Op} {v : Value} (hrun : ∀ w', Ext w w' → ∀ a, Sat s a env → (execOp a.eval ⟨some d, op, ty, pos, aft, none⟩).run P w' = .ok (.value v) w')
    (hd : Nat.blt d s.n = true) (h : wpQ P ops w Qn s rest ((d, v) :: env)) : wpQ P ops w Qn s (⟨some d, op, ty, pos, aft, none⟩ :: rest) env := fun a ha =>
  wpQuiet_one rfl ⟨v, fun w' hw' => by unfold Oper.quietAt; rw [hrun w' hw' a ha]; exact ⟨rfl, rfl⟩, h _ (ha.put d v hd)⟩
theorem Q.call {f : FuncId} {xs : List Operand} {ats : Array TypeId} {vs : List Value} {v : Value} (hx : evl env xs = some vs) (hd : Nat.blt d s.n = true) (hc : ∀ w', Ext w w' → Ret P f vs.toArray w' fun u w'' => u = v ∧ Ext w' w'')
    (h : wpQ P ops w Qn s rest ((d, v) :: env)) : wpQ P ops w Qn s (⟨some d, .call ⟨.value (.func f), xs.toArray, ats⟩, ty, pos, aft, none⟩ :: rest) env := fun a ha =>
  wpQuiet_one rfl ⟨v, fun w' hw' => by
    unfold Oper.quietAt
    have hr : (execOp a.eval ⟨some d, .call ⟨.value (.func f), xs.toArray, ats⟩, ty, pos, aft, none⟩).run P w' = .ok (.enter f vs.toArray) w' := by
      simp [execOp, resolve, invoke, Act.eval, Deferred.ofValue, ha.evl hx, run_callable (hc w' hw').1]
    rw [hr]
    exact ⟨rfl, Calls.mono (hc w' hw').2 fun e w'' ⟨u, he, hu, hw''⟩ => ⟨by rw [he, hu], Ext.trans hw' hw''⟩⟩, h _ (ha.put d v hd)⟩
theorem Q.on {dst : Option Nat} {op : Op} {j sl : Nat} {b : Bool} (hs : (ops[j]?).bind (·.dst) = some sl) (hb : look env sl = some (.bool b))
    (h : wpQ P ops w Qn s (⟨dst, op, ty, pos, aft, none⟩ :: rest) env) : wpQ P ops w Qn s (⟨dst, op, ty, pos, aft, some (j, b)⟩ :: rest) env := fun a ha => by
  have h1 := h a ha
  unfold wpQuiet at h1 ⊢
  have hy : yielded ops a.tmps j = some b := by simp [yielded, hs, ha.get sl _ hb]
  simp only [Region.wanted, hy, beq_self_eq_true, if_true] at h1 ⊢
  exact h1
theorem Q.off {op : Op} {j sl : Nat} {b c : Bool} (hs : (ops[j]?).bind (·.dst) = some sl) (hb : look env sl = some (.bool c)) (hne : (c == b) = false) (hd : Nat.blt d s.n = true)
    (h : wpQ P ops w Qn s rest ((d, undef) :: env)) : wpQ P ops w Qn s (⟨some d, op, ty, pos, aft, some (j, b)⟩ :: rest) env := fun a ha => by
  have hy : yielded ops a.tmps j = some c := by simp [yielded, hs, ha.get sl _ hb]
  unfold wpQuiet
  simp only [Region.wanted, hy]
  have : (some c == some b) = false := by simpa using hne
  simp only [this]
  exact h _ (ha.put d undef hd)
theorem Q.offu {op : Op} {j sl : Nat} {b : Bool} (hs : (ops[j]?).bind (·.dst) = some sl) (hb : look env sl = some undef) (hd : Nat.blt d s.n = true)
    (h : wpQ P ops w Qn s rest ((d, undef) :: env)) : wpQ P ops w Qn s (⟨some d, op, ty, pos, aft, some (j, b)⟩ :: rest) env := fun a ha => by
  have hy : yielded ops a.tmps j = none := by simp [yielded, hs, ha.get sl _ hb, undef]
  unfold wpQuiet
  simp only [Region.wanted, hy]
  exact h _ (ha.put d undef hd)
theorem Q.lenv {t e : TypeId} {x : Operand} {n : Nat} {v : Value} (hx : ev env x = some v) (hR : ∃ a cap, v = .slice a n cap) (ht : P.underlying t = some (.slice e)) (hd : Nat.blt d s.n = true)
    (h : wpQ P ops w Qn s rest ((d, .int .i64 (n : Int)) :: env)) : wpQ P ops w Qn s (⟨some d, .call ⟨.builtin .len, #[x], #[t]⟩, ty, pos, aft, none⟩ :: rest) env := by
  obtain ⟨a, cap, rfl⟩ := hR
  exact Q.op (fun w' _ a' ha => by simp [execOp, resolve, invoke, builtin, Builtin.len_, run_underlying ht, goInt, ha.ev hx]) hd h
theorem Q.len {t e : TypeId} {x : Operand} {sz n : Nat} {v : Value} {cs : List Value} (hx : ev env x = some v) (hR : Rd w sz v n cs) (ht : P.underlying t = some (.slice e)) (hd : Nat.blt d s.n = true)
    (h : wpQ P ops w Qn s rest ((d, .int .i64 (n : Int)) :: env)) : wpQ P ops w Qn s (⟨some d, .call ⟨.builtin .len, #[x], #[t]⟩, ty, pos, aft, none⟩ :: rest) env := Q.lenv hx hR.shape ht hd h
theorem Q.idx {t e : TypeId} {x ix : Operand} {k : IntKind} {i : Int} {sz n : Nat} {v : Value} {cs : List Value} (hx : ev env x = some v) (hi : ev env ix = some (.int k i)) (hR : Rd w sz v n cs)
    (ht : P.underlying t = some (.slice e)) (hs : (P.info? e).map (·.size) = some sz) (h0 : 0 ≤ i) (h1 : i < n) (hsz : 0 < sz) (hd : Nat.blt d s.n = true)
    (h : wpQ P ops w Qn s rest ((d, .pointer (some (el v (i.toNat * sz)))) :: env)) : wpQ P ops w Qn s (⟨some d, .indexAddr t x ix, ty, pos, aft, none⟩ :: rest) env := by
  obtain ⟨a, cap, rfl, hc1, hc2, hl, ha0, hat⟩ := hR
  have hpos : 0 < cs.length := by rw [hl]; exact Nat.mul_pos (by omega) hsz
  obtain ⟨b, off, rfl⟩ := ha0 hpos
  refine Q.op (fun w' _ a' ha => ?_) hd h
  cases hq : P.info? e with
  | none => simp [hq] at hs
  | some inf =>
    have hs' : inf.size = sz := by simpa [hq] using hs
    simp [execOp, ha.ev hx, ha.ev hi, Instr.indexAt, asIntOf, run_underlying ht, sizeOf, typeInfo, hq, hs', h0, h1, addr_add, el, bs]
theorem Q.load {t : TypeId} {x : Operand} {ad : Addr} {u : Value} {ds : TypeDesc} (hx : ev env x = some (.pointer (some ad))) (ht : P.underlying t = some ds) (hna : (match ds with | .struct _ | .array _ _ => true | _ => false) = false)
    (hc : w.cell? ad = some u) (hd : Nat.blt d s.n = true) (h : wpQ P ops w Qn s rest ((d, u) :: env)) : wpQ P ops w Qn s (⟨some d, .load t x, ty, pos, aft, none⟩ :: rest) env :=
  Q.op (fun w' hw' a' ha => by
    have hc' : w'.cell? ad = some u := by rw [hw'.cell (World.block_lt_of_cell? w ad hc)]; exact hc
    have hagg : (isAgg t).run P w' = .ok false w' := by
      unfold isAgg
      rw [Sem.run_bind, run_underlying ht w']
      cases ds <;> simp_all
    simp [execOp, ha.ev hx, Instr.loadAt, Instr.sureAddr, loadVar, hagg, hc']) hd h
theorem Q.get {α : Type} {enc : α → Value} {l : List α} {t e t2 ty2 : TypeId} {x ix : Operand} {kd : IntKind} {i : Int} {v : Value} {ds : TypeDesc} {d2 : Nat} {pos2 : String} {aft2 : Array Edge} (k : Nat)
    (hx : ev env x = some v) (hi : ev env ix = some (.int kd i)) (hR : RdL enc w v l) (hk : i = (k : Int)) (h1 : k < l.length)
    (ht : P.underlying t = some (.slice e)) (hs : (P.info? e).map (·.size) = some 1) (ht2 : P.underlying t2 = some ds) (hna : (match ds with | .struct _ | .array _ _ => true | _ => false) = false)
    (hd : Nat.blt d s.n = true) (hd2 : Nat.blt d2 s.n = true) (h : wpQ P ops w Qn s rest ((d2, enc l[k]) :: (d, .pointer (some (el v k))) :: env)) :
    wpQ P ops w Qn s (⟨some d, .indexAddr t x ix, ty, pos, aft, none⟩ :: ⟨some d2, .load t2 (.tmp d), ty2, pos2, aft2, none⟩ :: rest) env := by
  subst hk
  have e0 : (k : Int).toNat * 1 = k := by omega
  refine Q.idx hx hi hR ht hs (by omega) (by omega) (by decide) hd ?_
  rw [e0]
  exact Q.load (by show look _ d = _; rw [look_cons, if_pos rfl]) ht2 hna (hR.cell h1) hd2 h
theorem Q.mv {x : Operand} {v : Value} (hx : ev env x = some v) (hd : Nat.blt d s.n = true) (h : wpQ P ops w Qn s rest ((d, v) :: env)) : wpQ P ops w Qn s (⟨some d, .move x, ty, pos, aft, none⟩ :: rest) env :=
  Q.op (fun w' _ a ha => by simp [execOp, ha.ev hx]) hd h
theorem Q.asg {x : Operand} {v : Value} (hx : ev env x = some v) (hd : Nat.blt d s.n = true) (h : wpQ P ops w Qn s rest ((d, v) :: env)) : wpQ P ops w Qn s (⟨some d, .assign x, ty, pos, aft, none⟩ :: rest) env :=
  Q.op (fun w' _ a ha => by simp [execOp, ha.ev hx]) hd h
theorem Q.pick {c x y : Operand} {b : Bool} {v : Value} (hc : ev env c = some (.bool b)) (hx : (bif b then ev env x else ev env y) = some v) (hd : Nat.blt d s.n = true) (h : wpQ P ops w Qn s rest ((d, v) :: env)) : wpQ P ops w Qn s (⟨some d, .pick c x y, ty, pos, aft, none⟩ :: rest) env :=
  Q.op (fun w' _ a ha => by cases b <;> simp at hx <;> simp [execOp, ha.ev hc, ha.ev hx, asBool]) hd h
theorem Q.bin {op : BinOp} {t t2 : TypeId} {x y : Operand} {k : IntKind} {a b : Int} {v : Value} (hx : ev env x = some (.int k a)) (hy : ev env y = some (.int k b)) (hv : iop op k a b = some v)
    (hd : Nat.blt d s.n = true) (h : wpQ P ops w Qn s rest ((d, v) :: env)) : wpQ P ops w Qn s (⟨some d, .binOp op t x y t2, ty, pos, aft, none⟩ :: rest) env :=
  Q.op (fun w' _ a ha => by
    have := run_iop (P := P) t x y hv w'
    simp only [execOp, ha.ev hx, ha.ev hy]
    rw [Sem.run_bind, this]; rfl) hd h
theorem Q.quo {t t2 : TypeId} {x y : Operand} {k : IntKind} {a b c : Int} (hx : ev env x = some (.int k a)) (hy : ev env y = some (.int k b)) (hb : b ≠ 0) (hr : k.wrap (a.tdiv b) = c)
    (hd : Nat.blt d s.n = true) (h : wpQ P ops w Qn s rest ((d, .int k c) :: env)) : wpQ P ops w Qn s (⟨some d, .binOp .quo t x y t2, ty, pos, aft, none⟩ :: rest) env :=
  Q.op (fun w' _ a ha => by simp [execOp, ha.ev hx, ha.ev hy, eqGuard, binOp, Op.intDiv, hb, hr]) hd h
theorem Q.rem {t t2 : TypeId} {x y : Operand} {k : IntKind} {a b c : Int} (hx : ev env x = some (.int k a)) (hy : ev env y = some (.int k b)) (hb : b ≠ 0) (hr : a.tmod b = c)
    (hd : Nat.blt d s.n = true) (h : wpQ P ops w Qn s rest ((d, .int k c) :: env)) : wpQ P ops w Qn s (⟨some d, .binOp .rem t x y t2, ty, pos, aft, none⟩ :: rest) env :=
  Q.op (fun w' _ a ha => by simp [execOp, ha.ev hx, ha.ev hy, eqGuard, binOp, Op.intDiv, hb, hr]) hd h
theorem Q.shl {t t2 : TypeId} {x y : Operand} {k yk : IntKind} {a b c : Int} (hx : ev env x = some (.int k a)) (hy : ev env y = some (.int yk b)) (hb : 0 ≤ b) (hr : k.wrap (a * 2 ^ min b.toNat k.bits) = c)
    (hd : Nat.blt d s.n = true) (h : wpQ P ops w Qn s rest ((d, .int k c) :: env)) : wpQ P ops w Qn s (⟨some d, .binOp .shl t x y t2, ty, pos, aft, none⟩ :: rest) env :=
  Q.op (fun w' _ a ha => by
    have hb' : ¬ b < 0 := by omega
    simp [execOp, ha.ev hx, ha.ev hy, eqGuard, binOp, Op.shift, hb', hr]) hd h
theorem Q.shr {t t2 : TypeId} {x y : Operand} {k yk : IntKind} {a b c : Int} (hx : ev env x = some (.int k a)) (hy : ev env y = some (.int yk b)) (hb : 0 ≤ b) (hr : a / 2 ^ min b.toNat k.bits = c)
    (hd : Nat.blt d s.n = true) (h : wpQ P ops w Qn s rest ((d, .int k c) :: env)) : wpQ P ops w Qn s (⟨some d, .binOp .shr t x y t2, ty, pos, aft, none⟩ :: rest) env :=
  Q.op (fun w' _ a' ha => by
    have hs := shift_shr_any k yk a b hb
    simp [execOp, ha.ev hx, ha.ev hy, eqGuard, binOp, hs, hr]) hd h
theorem Q.conv {x : Operand} {src dst : TypeId} {ds : TypeDesc} {k0 k : IntKind} {a c : Int} (hx : ev env x = some (.int k0 a)) (hs : P.underlying src = some ds) (ht : P.underlying dst = some (.int k)) (hr : k.wrap a = c)
    (hd : Nat.blt d s.n = true) (h : wpQ P ops w Qn s rest ((d, .int k c) :: env)) : wpQ P ops w Qn s (⟨some d, .convert src dst x, ty, pos, aft, none⟩ :: rest) env :=
  Q.op (fun w' _ a ha => by simp [execOp, ha.ev hx, convert, run_underlying hs, run_underlying ht, Conv.intToInt, hr]) hd h
theorem Q.not {x : Operand} {t : TypeId} {b : Bool} (hx : ev env x = some (.bool b)) (hd : Nat.blt d s.n = true) (h : wpQ P ops w Qn s rest ((d, .bool (!b)) :: env)) : wpQ P ops w Qn s (⟨some d, .unOp .not t x, ty, pos, aft, none⟩ :: rest) env :=
  Q.op (fun w' _ a ha => by simp [execOp, ha.ev hx, Op.unary]) hd h
theorem Q.neg {x : Operand} {t : TypeId} {k : IntKind} {a c : Int} (hx : ev env x = some (.int k a)) (hr : k.wrap (0 - a) = c) (hd : Nat.blt d s.n = true) (h : wpQ P ops w Qn s rest ((d, .int k c) :: env)) : wpQ P ops w Qn s (⟨some d, .unOp .neg t x, ty, pos, aft, none⟩ :: rest) env :=
  Q.op (fun w' _ a' ha => by simp [execOp, ha.ev hx, unary_neg, Op.intArith] at hr ⊢; exact hr) hd h
theorem Q.flip {x : Operand} {t : TypeId} {k : IntKind} {a c : Int} (hx : ev env x = some (.int k a)) (hr : bits .xor k (if k.signed then -1 else k.max) a = c) (hd : Nat.blt d s.n = true) (h : wpQ P ops w Qn s rest ((d, .int k c) :: env)) : wpQ P ops w Qn s (⟨some d, .unOp .xor t x, ty, pos, aft, none⟩ :: rest) env :=
  Q.op (fun w' _ a' ha => by
    have : (Op.unary .xor (.int k a)).run P w' = .ok (.int k c) w' := by rw [unary_xor, ← hr]; rfl
    simp [execOp, ha.ev hx, this]) hd h
theorem Q.eqb {t t2 : TypeId} {x y : Operand} {a b : Bool} (hx : ev env x = some (.bool a)) (hy : ev env y = some (.bool b)) (ht : P.underlying t = some .bool)
    (hd : Nat.blt d s.n = true) (h : wpQ P ops w Qn s rest ((d, .bool (a == b)) :: env)) : wpQ P ops w Qn s (⟨some d, .binOp .eql t x y t2, ty, pos, aft, none⟩ :: rest) env :=
  Q.op (fun w' _ a' ha => by
    have h1 := run_eql_bool (P := P) w' t a b ht
    simp [execOp, ha.ev hx, ha.ev hy, eqGuard, h1]) hd h
theorem Q.neb {t t2 : TypeId} {x y : Operand} {a b : Bool} (hx : ev env x = some (.bool a)) (hy : ev env y = some (.bool b)) (ht : P.underlying t = some .bool)
    (hd : Nat.blt d s.n = true) (h : wpQ P ops w Qn s rest ((d, .bool (!(a == b))) :: env)) : wpQ P ops w Qn s (⟨some d, .binOp .neq t x y t2, ty, pos, aft, none⟩ :: rest) env :=
  Q.op (fun w' _ a' ha => by
    have h1 := run_equal_bool (P := P) w' t a b ht
    have h2 : (binOp .neq t (.bool a) (.bool b)).run P w' = .ok (.bool (!(a == b))) w' := by simp only [binOp]; simp [h1]
    simp only [execOp, ha.ev hx, ha.ev hy, eqGuard]
    simp [h2]) hd h
theorem Q.ext {x : Operand} {i : Nat} {vs : List Value} {v : Value} (hx : ev env x = some (.tuple vs.toArray)) (hv : vs[i]? = some v) (hd : Nat.blt d s.n = true) (h : wpQ P ops w Qn s rest ((d, v) :: env)) : wpQ P ops w Qn s (⟨some d, .extract x i, ty, pos, aft, none⟩ :: rest) env :=
  Q.op (fun w' _ a ha => by simp [execOp, ha.ev hx, Instr.extract, hv]) hd h
theorem Q.min2 {ats : Array TypeId} {x y : Operand} {k : IntKind} {a b : Int} (hx : ev env x = some (.int k a)) (hy : ev env y = some (.int k b)) 
    (hd : Nat.blt d s.n = true) (h : wpQ P ops w Qn s rest ((d, .int k (min a b)) :: env)) : wpQ P ops w Qn s (⟨some d, .call ⟨.builtin .min, #[x, y], ats⟩, ty, pos, aft, none⟩ :: rest) env :=
  Q.op (fun w' _ a' ha => by
    have e : (if b < a then b else a) = min a b := by rw [Int.min_def]; split <;> split <;> omega
    simp [execOp, resolve, invoke, builtin, Builtin.min_, Builtin.min2, ha.ev hx, ha.ev hy, e]) hd h
theorem Q.max2 {ats : Array TypeId} {x y : Operand} {k : IntKind} {a b : Int} (hx : ev env x = some (.int k a)) (hy : ev env y = some (.int k b)) 
    (hd : Nat.blt d s.n = true) (h : wpQ P ops w Qn s rest ((d, .int k (max a b)) :: env)) : wpQ P ops w Qn s (⟨some d, .call ⟨.builtin .max, #[x, y], ats⟩, ty, pos, aft, none⟩ :: rest) env :=
  Q.op (fun w' _ a' ha => by
    have e : (if b > a then b else a) = max a b := by rw [Int.max_def]; split <;> split <;> omega
    simp [execOp, resolve, invoke, builtin, Builtin.max_, Builtin.max2, ha.ev hx, ha.ev hy, e]) hd h
theorem Q.lenS {t : TypeId} {x : Operand} {b : ByteArray} (hx : ev env x = some (.string b)) (ht : P.underlying t = some .string) (hd : Nat.blt d s.n = true)
    (h : wpQ P ops w Qn s rest ((d, .int .i64 (b.size : Int)) :: env)) : wpQ P ops w Qn s (⟨some d, .call ⟨.builtin .len, #[x], #[t]⟩, ty, pos, aft, none⟩ :: rest) env :=
  Q.op (fun w' _ a' ha => by simp [execOp, resolve, invoke, builtin, Builtin.len_, run_underlying ht, goInt, ha.ev hx]) hd h
theorem Q.nilc {x : Operand} {a : Addr} (hx : ev env x = some (.pointer (some a))) (hd : Nat.blt d s.n = true) (h : wpQ P ops w Qn s rest ((d, .pointer (some a)) :: env)) : wpQ P ops w Qn s (⟨some d, .nilCheck x, ty, pos, aft, none⟩ :: rest) env :=
  Q.op (fun w' _ a' ha => by simp [execOp, ha.ev hx]) hd h
theorem Q.eqnil {t t2 e : TypeId} {x y : Operand} {a : Option Addr} (hx : ev env x = some (.pointer a)) (hy : ev env y = some (.pointer none)) (ht : P.underlying t = some (.pointer e))
    (hd : Nat.blt d s.n = true) (h : wpQ P ops w Qn s rest ((d, .bool a.isNone) :: env)) : wpQ P ops w Qn s (⟨some d, .binOp .eql t x y t2, ty, pos, aft, none⟩ :: rest) env :=
  Q.op (fun w' _ a' ha => by
    have h1 : (Op.equal t (.pointer a) (.pointer none)).run P w' = .ok a.isNone w' := by
      show (Op.equalIn (9999 + 1) t (.pointer a) (.pointer none)).run P w' = _
      unfold Op.equalIn
      rw [Sem.run_bind, run_underlying ht]
      cases a <;> rfl
    have h2 : (binOp .eql t (.pointer a) (.pointer none)).run P w' = .ok (.bool a.isNone) w' := by simp only [binOp]; simp [h1]
    simp only [execOp, ha.ev hx, ha.ev hy, eqGuard]
    simp [h2]) hd h
theorem Q.nenil {t t2 e : TypeId} {x y : Operand} {a : Option Addr} (hx : ev env x = some (.pointer a)) (hy : ev env y = some (.pointer none)) (ht : P.underlying t = some (.pointer e))
    (hd : Nat.blt d s.n = true) (h : wpQ P ops w Qn s rest ((d, .bool (!a.isNone)) :: env)) : wpQ P ops w Qn s (⟨some d, .binOp .neq t x y t2, ty, pos, aft, none⟩ :: rest) env :=
  Q.op (fun w' _ a' ha => by
    have h1 : (Op.equal t (.pointer a) (.pointer none)).run P w' = .ok a.isNone w' := by
      show (Op.equalIn (9999 + 1) t (.pointer a) (.pointer none)).run P w' = _
      unfold Op.equalIn
      rw [Sem.run_bind, run_underlying ht]
      cases a <;> rfl
    have h2 : (binOp .neq t (.pointer a) (.pointer none)).run P w' = .ok (.bool (!a.isNone)) w' := by simp only [binOp]; simp [h1]
    simp only [execOp, ha.ev hx, ha.ev hy, eqGuard]
    simp [h2]) hd h
theorem Q.fld {t : TypeId} {x : Operand} {f o b off : Nat} {fs : Array Field} {fd : Field} {sz : Nat} (hx : ev env x = some (.pointer (some ⟨b, off, none⟩))) (ht : P.underlying t = some (.struct fs)) (hf : fs[f]? = some fd) (ho : fd.offset = o)
    (hs : (P.info? fd.type).map (·.size) = some (sz + 1)) (hd : Nat.blt d s.n = true) (h : wpQ P ops w Qn s rest ((d, .pointer (some ⟨b, off + o, none⟩)) :: env)) : wpQ P ops w Qn s (⟨some d, .fieldAddr t x f, ty, pos, aft, none⟩ :: rest) env :=
  Q.op (fun w' _ a' ha => by
    subst ho
    cases hq : P.info? fd.type with
    | none => simp [hq] at hs
    | some inf =>
      have hs' : inf.size = sz + 1 := by simpa [hq] using hs
      simp [execOp, ha.ev hx, Instr.fieldAt, Instr.sureAddr, run_underlying ht, hf, fieldPlace, sizeOf, typeInfo, hq, hs', addr_add]) hd h
theorem Q.field {t : TypeId} {x : Operand} {f : Nat} {fs : Array Field} {fd : Field} {cs : List Value} {u : Value} {ds : TypeDesc} (hx : ev env x = some (.agg cs.toArray)) (ht : P.underlying t = some (.struct fs)) (hf : fs[f]? = some fd)
    (hu : P.underlying fd.type = some ds) (hna : (match ds with | .struct _ | .array _ _ => true | _ => false) = false) (hc : cs[fd.offset]? = some u)
    (hd : Nat.blt d s.n = true) (h : wpQ P ops w Qn s rest ((d, u) :: env)) : wpQ P ops w Qn s (⟨some d, .field t x f, ty, pos, aft, none⟩ :: rest) env :=
  Q.op (fun w' _ a' ha => by
    have hagg : (isAgg fd.type).run P w' = .ok false w' := by
      unfold isAgg
      rw [Sem.run_bind, run_underlying hu w']
      cases ds <;> simp_all
    simp [execOp, ha.ev hx, Instr.field, run_underlying ht, hf, asAgg, part, hagg, hc]) hd h
theorem Q.idxA {t e : TypeId} {x ix : Operand} {k : IntKind} {i : Int} {sz n b off : Nat} (hx : ev env x = some (.pointer (some ⟨b, off, none⟩))) (hi : ev env ix = some (.int k i))
    (ht : P.underlying t = some (.array n e)) (hs : (P.info? e).map (·.size) = some sz) (h0 : 0 ≤ i) (h1 : i < n) (hd : Nat.blt d s.n = true)
    (h : wpQ P ops w Qn s rest ((d, .pointer (some ⟨b, off + i.toNat * sz, none⟩)) :: env)) : wpQ P ops w Qn s (⟨some d, .indexAddr t x ix, ty, pos, aft, none⟩ :: rest) env := by
  refine Q.op (fun w' _ a' ha => ?_) hd h
  cases hq : P.info? e with
  | none => simp [hq] at hs
  | some inf =>
    have hs' : inf.size = sz := by simpa [hq] using hs
    simp [execOp, ha.ev hx, ha.ev hi, Instr.indexAt, Instr.sureAddr, asIntOf, run_underlying ht, sizeOf, typeInfo, hq, hs', h0, h1, addr_add]
theorem Q.add {t t2 : TypeId} {x y : Operand} {a b : Int} (hx : ev env x = some (.int .i64 a)) (hy : ev env y = some (.int .i64 b)) (hr : -9223372036854775808 ≤ a + b ∧ a + b ≤ 9223372036854775807)
    (hd : Nat.blt d s.n = true) (h : wpQ P ops w Qn s rest ((d, .int .i64 (a + b)) :: env)) : wpQ P ops w Qn s (⟨some d, .binOp .add t x y t2, ty, pos, aft, none⟩ :: rest) env :=
  Q.bin hx hy (v := .int .i64 (a + b)) (by simp only [iop]; rw [IntWalk.i64_in _ hr]) hd h
theorem Q.sub' {t t2 : TypeId} {x y : Operand} {a b : Int} (hx : ev env x = some (.int .i64 a)) (hy : ev env y = some (.int .i64 b)) (hr : -9223372036854775808 ≤ a - b ∧ a - b ≤ 9223372036854775807)
    (hd : Nat.blt d s.n = true) (h : wpQ P ops w Qn s rest ((d, .int .i64 (a - b)) :: env)) : wpQ P ops w Qn s (⟨some d, .binOp .sub t x y t2, ty, pos, aft, none⟩ :: rest) env :=
  Q.bin hx hy (v := .int .i64 (a - b)) (by simp only [iop]; rw [IntWalk.i64_in _ hr]) hd h
theorem Q.mul {t t2 : TypeId} {x y : Operand} {a b : Int} (hx : ev env x = some (.int .i64 a)) (hy : ev env y = some (.int .i64 b)) (hr : -9223372036854775808 ≤ a * b ∧ a * b ≤ 9223372036854775807)
    (hd : Nat.blt d s.n = true) (h : wpQ P ops w Qn s rest ((d, .int .i64 (a * b)) :: env)) : wpQ P ops w Qn s (⟨some d, .binOp .mul t x y t2, ty, pos, aft, none⟩ :: rest) env :=
  Q.bin hx hy (v := .int .i64 (a * b)) (by simp only [iop]; rw [IntWalk.i64_in _ hr]) hd h
theorem Q.binw {op : BinOp} {t t2 : TypeId} {x y : Operand} {k : IntKind} {a b : Int} {v v' : Value} (hx : ev env x = some (.int k a)) (hy : ev env y = some (.int k b)) (hv : iop op k a b = some v) (he : v = v')
    (hd : Nat.blt d s.n = true) (h : wpQ P ops w Qn s rest ((d, v') :: env)) : wpQ P ops w Qn s (⟨some d, .binOp op t x y t2, ty, pos, aft, none⟩ :: rest) env :=
  Q.bin hx hy (hv.trans (congrArg some he)) hd h
end
end Go.Proofs.YtcmgbjmcklfkcaaDoor.Sym
