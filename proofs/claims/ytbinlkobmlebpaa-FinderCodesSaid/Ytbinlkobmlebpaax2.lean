/- Texts of the claim, laid together: SymQ, SymS, SymH. -/
import Derived.StillTail
import Derived.OrdersHeld
import Derived.Deep.RegionHeld3
import Derived.Test.Ytbinlkobmlebpaax1
set_option linter.unusedSimpArgs false
set_option linter.unusedVariables false
namespace Go.Proofs.Ytbinlkobmlebpaa.Sym
open Go.RowKit
def wpQ (P : Program) (ops : Array Oper) (w : World) (Qn : Act → Prop) (s : St) (l : List Oper) (env : Env) : Prop := ∀ a, Sat s a env → wpQuiet P ops (Ext w) Qn l a
section
variable {P : Program} {ops : Array Oper} {Q : Exit → Act → World → Prop} {Qn : Act → Prop} {s : St} {env : Env} {w : World} {rest : List Oper}
variable {d : Nat} {ty : TypeId} {pos : String} {aft : Array Edge}
theorem C.drawn {id : Nat} {l : List Oper} (hm : P.follows .mixedOrders = true) (hB : Region.lexB .any l.toArray = true) (h : wpQ P l.toArray w (fun a' => ∀ w', Ext w w' → Q .normal a' w') s l env) : wpC P (.region id l.toArray true) Q s env w :=
 fun a ha => wp_region_quiet (C := Ext w) hm hB (Ext.refl w).drew (h a ha)
theorem Q.nil (h : ∀ w', Ext w w' → wpX .normal Q s env w') : wpQ P ops w (fun a' => ∀ w', Ext w w' → Q .normal a' w') s [] env := fun a ha => wpQuiet_nil fun w' hw' => h w' hw' a ha
theorem wpQuiet_one {o : Oper} {a : Act} (hg : o.guard = none) (h : o.quiet P a (Ext w) (wpQuiet P ops (Ext w) Qn rest)) : wpQuiet P ops (Ext w) Qn (o :: rest) a := by
 unfold wpQuiet
 rw [if_pos (by simp [Region.wanted, hg])]; exact h
theorem Q.op {op : Op} {v : Value} (hrun : ∀ w', Ext w w' → ∀ a, Sat s a env → (execOp a.eval ⟨some d, op, ty, pos, aft, none⟩).run P w' = .ok (.value v) w')
  (hd : Nat.blt d s.n = true) (h : wpQ P ops w Qn s rest ((d, v) :: env)) : wpQ P ops w Qn s (⟨some d, op, ty, pos, aft, none⟩ :: rest) env := fun a ha =>
 wpQuiet_one rfl ⟨v, fun w' hw' => by unfold Oper.quietAt; rw [hrun w' hw' a ha]; exact ⟨rfl, rfl⟩, h _ (ha.put d v hd)⟩
theorem Q.call {f : FuncId} {xs : List Operand} {ats : Array TypeId} {vs : List Value} {v : Value} (hx : evl env xs = some vs) (hd : Nat.blt d s.n = true) (hc : ∀ w', Ext w w' → Ret P f vs.toArray w' fun u w'' => u = v ∧ Ext w' w'')
  (h : wpQ P ops w Qn s rest ((d, v) :: env)) : wpQ P ops w Qn s (⟨some d, .call ⟨.value (.func f), xs.toArray, ats⟩, ty, pos, aft, none⟩ :: rest) env := fun a ha =>
 wpQuiet_one rfl ⟨v, fun w' hw' => by
  unfold Oper.quietAt
  have hr : (execOp a.eval ⟨some d, .call ⟨.value (.func f), xs.toArray, ats⟩, ty, pos, aft, none⟩).run P w' = .ok (.enter f vs.toArray) w' := by
   simp [execOp, resolve, invoke, Act.eval, Deferred.ofValue, ha.evl hx, run_callable (hc w' hw').1]
  rw [hr]
  exact ⟨rfl, Calls.mono (hc w' hw').2 fun e w'' ⟨u, he, hu, hw''⟩ => ⟨by rw [he, hu], Ext.trans hw' hw''⟩⟩, h _ (ha.put d v hd)⟩
theorem Q.on {dst : Option Nat} {op : Op} {j sl : Nat} {b : Bool} (hs : (ops[j]?).bind (·.dst) = some sl) (hb : look env sl = some (.bool b))
  (h : wpQ P ops w Qn s (⟨dst, op, ty, pos, aft, none⟩ :: rest) env) : wpQ P ops w Qn s (⟨dst, op, ty, pos, aft, some (j, b)⟩ :: rest) env := fun a ha => by
 have h1 := h a ha
 unfold wpQuiet at h1 ⊢
 have hy : yielded ops a.tmps j = some b := by simp [yielded, hs, ha.get sl _ hb]
 simp only [Region.wanted, hy, beq_self_eq_true, if_true] at h1 ⊢
 exact h1
theorem Q.off {op : Op} {j sl : Nat} {b c : Bool} (hs : (ops[j]?).bind (·.dst) = some sl) (hb : look env sl = some (.bool c)) (hne : (c == b) = false) (hd : Nat.blt d s.n = true)
  (h : wpQ P ops w Qn s rest ((d, undef) :: env)) : wpQ P ops w Qn s (⟨some d, op, ty, pos, aft, some (j, b)⟩ :: rest) env := fun a ha => by
 have hy : yielded ops a.tmps j = some c := by simp [yielded, hs, ha.get sl _ hb]
 unfold wpQuiet
 simp only [Region.wanted, hy]
 have : (some c == some b) = false := by simpa using hne
 simp only [this]
 exact h _ (ha.put d undef hd)
theorem Q.idx {t e : TypeId} {x ix : Operand} {k : IntKind} {i : Int} {sz n : Nat} {v : Value} {cs : List Value} (hx : ev env x = some v) (hi : ev env ix = some (.int k i)) (hR : Rd w sz v n cs)
  (ht : P.underlying t = some (.slice e)) (hs : (P.info? e).map (·.size) = some sz) (h0 : 0 ≤ i) (h1 : i < n) (hsz : 0 < sz) (hd : Nat.blt d s.n = true)
  (h : wpQ P ops w Qn s rest ((d, .pointer (some (el v (i.toNat * sz)))) :: env)) : wpQ P ops w Qn s (⟨some d, .indexAddr t x ix, ty, pos, aft, none⟩ :: rest) env := by
 obtain ⟨a, cap, rfl, hc1, hc2, hl, ha0, hat⟩ := hR
 have hpos : 0 < cs.length := by rw [hl]; exact Nat.mul_pos (by omega) hsz
 obtain ⟨b, off, rfl⟩ := ha0 hpos
 refine Q.op (fun w' _ a' ha => ?_) hd h
 cases hq : P.info? e with
 | none => simp [hq] at hs
 | some inf =>
  have hs' : inf.size = sz := by simpa [hq] using hs
  simp [execOp, ha.ev hx, ha.ev hi, Instr.indexAt, asIntOf, run_underlying ht, sizeOf, typeInfo, hq, hs', h0, h1, addr_add, el, bs]
theorem Q.load {t : TypeId} {x : Operand} {ad : Addr} {u : Value} {ds : TypeDesc} (hx : ev env x = some (.pointer (some ad))) (ht : P.underlying t = some ds) (hna : (match ds with | .struct _ | .array _ _ => true | _ => false) = false)
  (hc : w.cell? ad = some u) (hd : Nat.blt d s.n = true) (h : wpQ P ops w Qn s rest ((d, u) :: env)) : wpQ P ops w Qn s (⟨some d, .load t x, ty, pos, aft, none⟩ :: rest) env :=
 Q.op (fun w' hw' a' ha => by
  have hc' : w'.cell? ad = some u := by rw [hw'.cell (World.block_lt_of_cell? w ad hc)]; exact hc
  have hagg : (isAgg t).run P w' = .ok false w' := by
   unfold isAgg
   rw [Sem.run_bind, run_underlying ht w']
   cases ds <;> simp_all
  simp [execOp, ha.ev hx, Instr.loadAt, Instr.sureAddr, loadVar, hagg, hc']) hd h
theorem Q.mv {x : Operand} {v : Value} (hx : ev env x = some v) (hd : Nat.blt d s.n = true) (h : wpQ P ops w Qn s rest ((d, v) :: env)) : wpQ P ops w Qn s (⟨some d, .move x, ty, pos, aft, none⟩ :: rest) env :=
 Q.op (fun w' _ a ha => by simp [execOp, ha.ev hx]) hd h
theorem Q.asg {x : Operand} {v : Value} (hx : ev env x = some v) (hd : Nat.blt d s.n = true) (h : wpQ P ops w Qn s rest ((d, v) :: env)) : wpQ P ops w Qn s (⟨some d, .assign x, ty, pos, aft, none⟩ :: rest) env :=
 Q.op (fun w' _ a ha => by simp [execOp, ha.ev hx]) hd h
theorem Q.pick {c x y : Operand} {b : Bool} {v : Value} (hc : ev env c = some (.bool b)) (hx : (bif b then ev env x else ev env y) = some v) (hd : Nat.blt d s.n = true) (h : wpQ P ops w Qn s rest ((d, v) :: env)) : wpQ P ops w Qn s (⟨some d, .pick c x y, ty, pos, aft, none⟩ :: rest) env :=
 Q.op (fun w' _ a ha => by cases b <;> simp at hx <;> simp [execOp, ha.ev hc, ha.ev hx, asBool]) hd h
theorem Q.bin {op : BinOp} {t t2 : TypeId} {x y : Operand} {k : IntKind} {a b : Int} {v : Value} (hx : ev env x = some (.int k a)) (hy : ev env y = some (.int k b)) (hv : iop op k a b = some v)
  (hd : Nat.blt d s.n = true) (h : wpQ P ops w Qn s rest ((d, v) :: env)) : wpQ P ops w Qn s (⟨some d, .binOp op t x y t2, ty, pos, aft, none⟩ :: rest) env :=
 Q.op (fun w' _ a ha => by
  have := run_iop (P := P) t x y hv w'
  simp only [execOp, ha.ev hx, ha.ev hy]
  rw [Sem.run_bind, this]; rfl) hd h
theorem Q.quo {t t2 : TypeId} {x y : Operand} {k : IntKind} {a b c : Int} (hx : ev env x = some (.int k a)) (hy : ev env y = some (.int k b)) (hb : b ≠ 0) (hr : k.wrap (a.tdiv b) = c)
  (hd : Nat.blt d s.n = true) (h : wpQ P ops w Qn s rest ((d, .int k c) :: env)) : wpQ P ops w Qn s (⟨some d, .binOp .quo t x y t2, ty, pos, aft, none⟩ :: rest) env :=
 Q.op (fun w' _ a ha => by simp [execOp, ha.ev hx, ha.ev hy, eqGuard, binOp, Op.intDiv, hb, hr]) hd h
theorem Q.rem {t t2 : TypeId} {x y : Operand} {k : IntKind} {a b c : Int} (hx : ev env x = some (.int k a)) (hy : ev env y = some (.int k b)) (hb : b ≠ 0) (hr : a.tmod b = c)
  (hd : Nat.blt d s.n = true) (h : wpQ P ops w Qn s rest ((d, .int k c) :: env)) : wpQ P ops w Qn s (⟨some d, .binOp .rem t x y t2, ty, pos, aft, none⟩ :: rest) env :=
 Q.op (fun w' _ a ha => by simp [execOp, ha.ev hx, ha.ev hy, eqGuard, binOp, Op.intDiv, hb, hr]) hd h
theorem Q.eqb {t t2 : TypeId} {x y : Operand} {a b : Bool} (hx : ev env x = some (.bool a)) (hy : ev env y = some (.bool b)) (ht : P.underlying t = some .bool)
  (hd : Nat.blt d s.n = true) (h : wpQ P ops w Qn s rest ((d, .bool (a == b)) :: env)) : wpQ P ops w Qn s (⟨some d, .binOp .eql t x y t2, ty, pos, aft, none⟩ :: rest) env :=
 Q.op (fun w' _ a' ha => by
  have h1 := run_eql_bool (P := P) w' t a b ht
  simp [execOp, ha.ev hx, ha.ev hy, eqGuard, h1]) hd h
theorem Q.neb {t t2 : TypeId} {x y : Operand} {a b : Bool} (hx : ev env x = some (.bool a)) (hy : ev env y = some (.bool b)) (ht : P.underlying t = some .bool)
  (hd : Nat.blt d s.n = true) (h : wpQ P ops w Qn s rest ((d, .bool (!(a == b))) :: env)) : wpQ P ops w Qn s (⟨some d, .binOp .neq t x y t2, ty, pos, aft, none⟩ :: rest) env :=
 Q.op (fun w' _ a' ha => by
  have h1 := run_equal_bool (P := P) w' t a b ht
  have h2 : (binOp .neq t (.bool a) (.bool b)).run P w' = .ok (.bool (!(a == b))) w' := by simp only [binOp]; simp [h1]
  simp only [execOp, ha.ev hx, ha.ev hy, eqGuard]
  simp [h2]) hd h
theorem Q.max2 {ats : Array TypeId} {x y : Operand} {k : IntKind} {a b : Int} (hx : ev env x = some (.int k a)) (hy : ev env y = some (.int k b)) 
  (hd : Nat.blt d s.n = true) (h : wpQ P ops w Qn s rest ((d, .int k (max a b)) :: env)) : wpQ P ops w Qn s (⟨some d, .call ⟨.builtin .max, #[x, y], ats⟩, ty, pos, aft, none⟩ :: rest) env :=
 Q.op (fun w' _ a' ha => by
  have e : (if b > a then b else a) = max a b := by rw [Int.max_def]; split <;> split <;> omega
  simp [execOp, resolve, invoke, builtin, Builtin.max_, Builtin.max2, ha.ev hx, ha.ev hy, e]) hd h
theorem Q.nilc {x : Operand} {a : Addr} (hx : ev env x = some (.pointer (some a))) (hd : Nat.blt d s.n = true) (h : wpQ P ops w Qn s rest ((d, .pointer (some a)) :: env)) : wpQ P ops w Qn s (⟨some d, .nilCheck x, ty, pos, aft, none⟩ :: rest) env :=
 Q.op (fun w' _ a' ha => by simp [execOp, ha.ev hx]) hd h
theorem Q.fld {t : TypeId} {x : Operand} {f o b off : Nat} {fs : Array Field} {fd : Field} {sz : Nat} (hx : ev env x = some (.pointer (some ⟨b, off, none⟩))) (ht : P.underlying t = some (.struct fs)) (hf : fs[f]? = some fd) (ho : fd.offset = o)
  (hs : (P.info? fd.type).map (·.size) = some (sz + 1)) (hd : Nat.blt d s.n = true) (h : wpQ P ops w Qn s rest ((d, .pointer (some ⟨b, off + o, none⟩)) :: env)) : wpQ P ops w Qn s (⟨some d, .fieldAddr t x f, ty, pos, aft, none⟩ :: rest) env :=
 Q.op (fun w' _ a' ha => by
  subst ho
  cases hq : P.info? fd.type with
  | none => simp [hq] at hs
  | some inf =>
   have hs' : inf.size = sz + 1 := by simpa [hq] using hs
   simp [execOp, ha.ev hx, Instr.fieldAt, Instr.sureAddr, run_underlying ht, hf, fieldPlace, sizeOf, typeInfo, hq, hs', addr_add]) hd h
theorem Q.idxA {t e : TypeId} {x ix : Operand} {k : IntKind} {i : Int} {sz n b off : Nat} (hx : ev env x = some (.pointer (some ⟨b, off, none⟩))) (hi : ev env ix = some (.int k i))
  (ht : P.underlying t = some (.array n e)) (hs : (P.info? e).map (·.size) = some sz) (h0 : 0 ≤ i) (h1 : i < n) (hd : Nat.blt d s.n = true)
  (h : wpQ P ops w Qn s rest ((d, .pointer (some ⟨b, off + i.toNat * sz, none⟩)) :: env)) : wpQ P ops w Qn s (⟨some d, .indexAddr t x ix, ty, pos, aft, none⟩ :: rest) env := by
 refine Q.op (fun w' _ a' ha => ?_) hd h
 cases hq : P.info? e with
 | none => simp [hq] at hs
 | some inf =>
  have hs' : inf.size = sz := by simpa [hq] using hs
  simp [execOp, ha.ev hx, ha.ev hi, Instr.indexAt, Instr.sureAddr, asIntOf, run_underlying ht, sizeOf, typeInfo, hq, hs', h0, h1, addr_add]
theorem Q.add {t t2 : TypeId} {x y : Operand} {a b : Int} (hx : ev env x = some (.int .i64 a)) (hy : ev env y = some (.int .i64 b)) (hr : -9223372036854775808 ≤ a + b ∧ a + b ≤ 9223372036854775807)
  (hd : Nat.blt d s.n = true) (h : wpQ P ops w Qn s rest ((d, .int .i64 (a + b)) :: env)) : wpQ P ops w Qn s (⟨some d, .binOp .add t x y t2, ty, pos, aft, none⟩ :: rest) env :=
 Q.bin hx hy (v := .int .i64 (a + b)) (by simp only [iop]; rw [IntWalk.i64_in _ hr]) hd h
theorem Q.sub' {t t2 : TypeId} {x y : Operand} {a b : Int} (hx : ev env x = some (.int .i64 a)) (hy : ev env y = some (.int .i64 b)) (hr : -9223372036854775808 ≤ a - b ∧ a - b ≤ 9223372036854775807)
  (hd : Nat.blt d s.n = true) (h : wpQ P ops w Qn s rest ((d, .int .i64 (a - b)) :: env)) : wpQ P ops w Qn s (⟨some d, .binOp .sub t x y t2, ty, pos, aft, none⟩ :: rest) env :=
 Q.bin hx hy (v := .int .i64 (a - b)) (by simp only [iop]; rw [IntWalk.i64_in _ hr]) hd h
theorem Q.mul {t t2 : TypeId} {x y : Operand} {a b : Int} (hx : ev env x = some (.int .i64 a)) (hy : ev env y = some (.int .i64 b)) (hr : -9223372036854775808 ≤ a * b ∧ a * b ≤ 9223372036854775807)
  (hd : Nat.blt d s.n = true) (h : wpQ P ops w Qn s rest ((d, .int .i64 (a * b)) :: env)) : wpQ P ops w Qn s (⟨some d, .binOp .mul t x y t2, ty, pos, aft, none⟩ :: rest) env :=
 Q.bin hx hy (v := .int .i64 (a * b)) (by simp only [iop]; rw [IntWalk.i64_in _ hr]) hd h
end
end Go.Proofs.Ytbinlkobmlebpaa.Sym
namespace Go.Proofs.Ytbinlkobmlebpaa.Sym
open Go.RowKit
def wpS (P : Program) (ops : Array Oper) (Lq : Act → Prop) (s : St) (l : List Oper) (env : Env) (w : World) : Prop := ∀ a, Sat s a env → wpStill P ops w Lq l a
section
variable {P : Program} {ops : Array Oper} {Q : Exit → Act → World → Prop} {Lq : Act → Prop} {s : St} {env : Env} {w : World} {rest : List Oper}
variable {d : Nat} {ty : TypeId} {pos : String} {aft : Array Edge}
theorem C.drawnT {id : Nat} {l : List Oper} (n : Nat) (hm : P.follows .mixedOrders = true) (hB : Region.lexTailB .any l.toArray n = true) (h : ∀ w', Ext w w' → wpS P l.toArray (fun a' => wpList P l.toArray Q (l.drop n) a' w') s (l.take n) env w') : wpC P (.region id l.toArray true) Q s env w :=
 fun a ha => wp_region_still_tail n hm hB (h _ (Ext.refl w).drew a ha)
theorem S.nil {tail : List Oper} (h : wpE P ops Q s tail env w) : wpS P ops (fun a' => wpList P ops Q tail a' w) s [] env w := fun a ha => wpStill_nil (h a ha)
theorem wpStill_one {o : Oper} {a : Act} (hg : o.guard = none) (h : o.still P a w (wpStill P ops w Lq rest)) : wpStill P ops w Lq (o :: rest) a := by
 unfold wpStill
 rw [if_pos (by simp [Region.wanted, hg])]; exact h
theorem S.op {op : Op} {v : Value} (hrun : ∀ a, Sat s a env → (execOp a.eval ⟨some d, op, ty, pos, aft, none⟩).run P w = .ok (.value v) w)
  (hd : Nat.blt d s.n = true) (h : wpS P ops Lq s rest ((d, v) :: env) w) : wpS P ops Lq s (⟨some d, op, ty, pos, aft, none⟩ :: rest) env w := fun a ha =>
 wpStill_one rfl (by unfold Oper.still; rw [hrun a ha, Oper.stillUpon_value]; exact h _ (ha.put d v hd))
theorem S.on {dst : Option Nat} {op : Op} {j sl : Nat} {b : Bool} (hs : (ops[j]?).bind (·.dst) = some sl) (hb : look env sl = some (.bool b))
  (h : wpS P ops Lq s (⟨dst, op, ty, pos, aft, none⟩ :: rest) env w) : wpS P ops Lq s (⟨dst, op, ty, pos, aft, some (j, b)⟩ :: rest) env w := fun a ha => by
 have h1 := h a ha
 unfold wpStill at h1 ⊢
 have hy : yielded ops a.tmps j = some b := by simp [yielded, hs, ha.get sl _ hb]
 simp only [Region.wanted, hy, beq_self_eq_true, if_true] at h1 ⊢
 exact h1
theorem S.off {op : Op} {j sl : Nat} {b c : Bool} (hs : (ops[j]?).bind (·.dst) = some sl) (hb : look env sl = some (.bool c)) (hne : (c == b) = false) (hd : Nat.blt d s.n = true)
  (h : wpS P ops Lq s rest ((d, undef) :: env) w) : wpS P ops Lq s (⟨some d, op, ty, pos, aft, some (j, b)⟩ :: rest) env w := fun a ha => by
 have hy : yielded ops a.tmps j = some c := by simp [yielded, hs, ha.get sl _ hb]
 unfold wpStill
 simp only [Region.wanted, hy]
 have : (some c == some b) = false := by simpa using hne
 simp only [this]
 exact h _ (ha.put d undef hd)
theorem S.mv {x : Operand} {v : Value} (hx : ev env x = some v) (hd : Nat.blt d s.n = true) (h : wpS P ops Lq s rest ((d, v) :: env) w) : wpS P ops Lq s (⟨some d, .move x, ty, pos, aft, none⟩ :: rest) env w :=
 S.op (fun a ha => by simp [execOp, ha.ev hx]) hd h
theorem S.pick {c x y : Operand} {b : Bool} {v : Value} (hc : ev env c = some (.bool b)) (hx : (bif b then ev env x else ev env y) = some v) (hd : Nat.blt d s.n = true) (h : wpS P ops Lq s rest ((d, v) :: env) w) : wpS P ops Lq s (⟨some d, .pick c x y, ty, pos, aft, none⟩ :: rest) env w :=
 S.op (fun a ha => by cases b <;> simp at hx <;> simp [execOp, ha.ev hc, ha.ev hx, asBool]) hd h
theorem S.bin {op : BinOp} {t t2 : TypeId} {x y : Operand} {k : IntKind} {a b : Int} {v : Value} (hx : ev env x = some (.int k a)) (hy : ev env y = some (.int k b)) (hv : iop op k a b = some v)
  (hd : Nat.blt d s.n = true) (h : wpS P ops Lq s rest ((d, v) :: env) w) : wpS P ops Lq s (⟨some d, .binOp op t x y t2, ty, pos, aft, none⟩ :: rest) env w :=
 S.op (fun a ha => by
  have := run_iop (P := P) t x y hv w
  simp only [execOp, ha.ev hx, ha.ev hy]
  rw [Sem.run_bind, this]; rfl) hd h
theorem S.quo {t t2 : TypeId} {x y : Operand} {k : IntKind} {a b c : Int} (hx : ev env x = some (.int k a)) (hy : ev env y = some (.int k b)) (hb : b ≠ 0) (hr : k.wrap (a.tdiv b) = c)
  (hd : Nat.blt d s.n = true) (h : wpS P ops Lq s rest ((d, .int k c) :: env) w) : wpS P ops Lq s (⟨some d, .binOp .quo t x y t2, ty, pos, aft, none⟩ :: rest) env w :=
 S.op (fun a ha => by simp [execOp, ha.ev hx, ha.ev hy, eqGuard, binOp, Op.intDiv, hb, hr]) hd h
theorem S.min2 {ats : Array TypeId} {x y : Operand} {k : IntKind} {a b : Int} (hx : ev env x = some (.int k a)) (hy : ev env y = some (.int k b)) 
  (hd : Nat.blt d s.n = true) (h : wpS P ops Lq s rest ((d, .int k (min a b)) :: env) w) : wpS P ops Lq s (⟨some d, .call ⟨.builtin .min, #[x, y], ats⟩, ty, pos, aft, none⟩ :: rest) env w :=
 S.op (fun a' ha => by
  have e : (if b < a then b else a) = min a b := by rw [Int.min_def]; split <;> split <;> omega
  simp [execOp, resolve, invoke, builtin, Builtin.min_, Builtin.min2, ha.ev hx, ha.ev hy, e]) hd h
theorem S.max2 {ats : Array TypeId} {x y : Operand} {k : IntKind} {a b : Int} (hx : ev env x = some (.int k a)) (hy : ev env y = some (.int k b)) 
  (hd : Nat.blt d s.n = true) (h : wpS P ops Lq s rest ((d, .int k (max a b)) :: env) w) : wpS P ops Lq s (⟨some d, .call ⟨.builtin .max, #[x, y], ats⟩, ty, pos, aft, none⟩ :: rest) env w :=
 S.op (fun a' ha => by
  have e : (if b > a then b else a) = max a b := by rw [Int.max_def]; split <;> split <;> omega
  simp [execOp, resolve, invoke, builtin, Builtin.max_, Builtin.max2, ha.ev hx, ha.ev hy, e]) hd h
theorem S.nilc {x : Operand} {a : Addr} (hx : ev env x = some (.pointer (some a))) (hd : Nat.blt d s.n = true) (h : wpS P ops Lq s rest ((d, .pointer (some a)) :: env) w) : wpS P ops Lq s (⟨some d, .nilCheck x, ty, pos, aft, none⟩ :: rest) env w :=
 S.op (fun a' ha => by simp [execOp, ha.ev hx]) hd h
theorem S.fld {t : TypeId} {x : Operand} {f o b off : Nat} {fs : Array Field} {fd : Field} {sz : Nat} (hx : ev env x = some (.pointer (some ⟨b, off, none⟩))) (ht : P.underlying t = some (.struct fs)) (hf : fs[f]? = some fd) (ho : fd.offset = o)
  (hs : (P.info? fd.type).map (·.size) = some (sz + 1)) (hd : Nat.blt d s.n = true) (h : wpS P ops Lq s rest ((d, .pointer (some ⟨b, off + o, none⟩)) :: env) w) : wpS P ops Lq s (⟨some d, .fieldAddr t x f, ty, pos, aft, none⟩ :: rest) env w :=
 S.op (fun a' ha => by
  subst ho
  cases hq : P.info? fd.type with
  | none => simp [hq] at hs
  | some inf =>
   have hs' : inf.size = sz + 1 := by simpa [hq] using hs
   simp [execOp, ha.ev hx, Instr.fieldAt, Instr.sureAddr, run_underlying ht, hf, fieldPlace, sizeOf, typeInfo, hq, hs', addr_add]) hd h
theorem S.loadA {t : TypeId} {x : Operand} {b off : Nat} {cs : List Value} {ds : TypeDesc} (hx : ev env x = some (.pointer (some ⟨b, off, none⟩))) (ht : P.underlying t = some ds) (hna : (match ds with | .struct _ | .array _ _ => true | _ => false) = true)
  (hs : (P.info? t).map (·.size) = some cs.length) (hc : At w b off cs) (hd : Nat.blt d s.n = true) (h : wpS P ops Lq s rest ((d, .agg cs.toArray) :: env) w) : wpS P ops Lq s (⟨some d, .load t x, ty, pos, aft, none⟩ :: rest) env w :=
 S.op (fun a' ha => by
  have hagg : (isAgg t).run P w = .ok true w := by
   unfold isAgg
   rw [Sem.run_bind, run_underlying ht w]
   cases ds <;> simp_all
  have hl : (loadCells ⟨b, off, none⟩ cs.length).run P w = .ok cs.toArray w := run_loadCells_list (P := P) w ⟨b, off, none⟩ cs (fun j v hv => by rw [addr_add]; exact hc j v hv)
  cases hq : P.info? t with
  | none => simp [hq] at hs
  | some inf =>
   have hs' : inf.size = cs.length := by simpa [hq] using hs
   simp [execOp, ha.ev hx, Instr.loadAt, Instr.sureAddr, loadVar, hagg, sizeOf, typeInfo, hq, hs', hl]) hd h
theorem S.add {t t2 : TypeId} {x y : Operand} {a b : Int} (hx : ev env x = some (.int .i64 a)) (hy : ev env y = some (.int .i64 b)) (hr : -9223372036854775808 ≤ a + b ∧ a + b ≤ 9223372036854775807)
  (hd : Nat.blt d s.n = true) (h : wpS P ops Lq s rest ((d, .int .i64 (a + b)) :: env) w) : wpS P ops Lq s (⟨some d, .binOp .add t x y t2, ty, pos, aft, none⟩ :: rest) env w :=
 S.bin hx hy (v := .int .i64 (a + b)) (by simp only [iop]; rw [IntWalk.i64_in _ hr]) hd h
theorem S.sub' {t t2 : TypeId} {x y : Operand} {a b : Int} (hx : ev env x = some (.int .i64 a)) (hy : ev env y = some (.int .i64 b)) (hr : -9223372036854775808 ≤ a - b ∧ a - b ≤ 9223372036854775807)
  (hd : Nat.blt d s.n = true) (h : wpS P ops Lq s rest ((d, .int .i64 (a - b)) :: env) w) : wpS P ops Lq s (⟨some d, .binOp .sub t x y t2, ty, pos, aft, none⟩ :: rest) env w :=
 S.bin hx hy (v := .int .i64 (a - b)) (by simp only [iop]; rw [IntWalk.i64_in _ hr]) hd h
theorem S.mul {t t2 : TypeId} {x y : Operand} {a b : Int} (hx : ev env x = some (.int .i64 a)) (hy : ev env y = some (.int .i64 b)) (hr : -9223372036854775808 ≤ a * b ∧ a * b ≤ 9223372036854775807)
  (hd : Nat.blt d s.n = true) (h : wpS P ops Lq s rest ((d, .int .i64 (a * b)) :: env) w) : wpS P ops Lq s (⟨some d, .binOp .mul t x y t2, ty, pos, aft, none⟩ :: rest) env w :=
 S.bin hx hy (v := .int .i64 (a * b)) (by simp only [iop]; rw [IntWalk.i64_in _ hr]) hd h
theorem S.lenv {t e : TypeId} {x : Operand} {n : Nat} {v : Value} (hx : ev env x = some v) (hR : ∃ a cap, v = .slice a n cap) (ht : P.underlying t = some (.slice e)) (hd : Nat.blt d s.n = true)
  (h : wpS P ops Lq s rest ((d, .int .i64 (n : Int)) :: env) w) : wpS P ops Lq s (⟨some d, .call ⟨.builtin .len, #[x], #[t]⟩, ty, pos, aft, none⟩ :: rest) env w := by
 obtain ⟨a, cap, rfl⟩ := hR
 exact S.op (fun a' ha => by simp [execOp, resolve, invoke, builtin, Builtin.len_, run_underlying ht, goInt, ha.ev hx]) hd h
theorem S.idx {t e : TypeId} {x ix : Operand} {k : IntKind} {i : Int} {sz n : Nat} {v : Value} {cs : List Value} (hx : ev env x = some v) (hi : ev env ix = some (.int k i)) (hR : Rd w sz v n cs)
  (ht : P.underlying t = some (.slice e)) (hs : (P.info? e).map (·.size) = some sz) (h0 : 0 ≤ i) (h1 : i < n) (hsz : 0 < sz) (hd : Nat.blt d s.n = true)
  (h : wpS P ops Lq s rest ((d, .pointer (some (el v (i.toNat * sz)))) :: env) w) : wpS P ops Lq s (⟨some d, .indexAddr t x ix, ty, pos, aft, none⟩ :: rest) env w := by
 obtain ⟨a, cap, rfl, hc1, hc2, hl, ha0, hat⟩ := hR
 have hpos : 0 < cs.length := by rw [hl]; exact Nat.mul_pos (by omega) hsz
 obtain ⟨b, off, rfl⟩ := ha0 hpos
 refine S.op (fun a' ha => ?_) hd h
 cases hq : P.info? e with
 | none => simp [hq] at hs
 | some inf =>
  have hs' : inf.size = sz := by simpa [hq] using hs
  simp [execOp, ha.ev hx, ha.ev hi, Instr.indexAt, asIntOf, run_underlying ht, sizeOf, typeInfo, hq, hs', h0, h1, addr_add, el, bs]
theorem S.load {t : TypeId} {x : Operand} {ad : Addr} {u : Value} {ds : TypeDesc} (hx : ev env x = some (.pointer (some ad))) (ht : P.underlying t = some ds) (hna : (match ds with | .struct _ | .array _ _ => true | _ => false) = false)
  (hc : w.cell? ad = some u) (hd : Nat.blt d s.n = true) (h : wpS P ops Lq s rest ((d, u) :: env) w) : wpS P ops Lq s (⟨some d, .load t x, ty, pos, aft, none⟩ :: rest) env w :=
 S.op (fun a' ha => by
  have hagg : (isAgg t).run P w = .ok false w := by
   unfold isAgg
   rw [Sem.run_bind, run_underlying ht w]
   cases ds <;> simp_all
  simp [execOp, ha.ev hx, Instr.loadAt, Instr.sureAddr, loadVar, hagg, hc]) hd h
end
end Go.Proofs.Ytbinlkobmlebpaa.Sym
namespace Go.Proofs.Ytbinlkobmlebpaa.Sym
open Go.RowKit
def Yld (P : Program) (ops : Array Oper) (s : St) (env : Env) (w : World) (o : Oper) (v : Value) : Prop := ∀ a, Sat s a env →
 (Region.wanted o (yielded ops a.tmps) = true ∧ (execOp a.eval o).run P w = .ok (.value v) w) ∨ (Region.wanted o (yielded ops a.tmps) = false ∧ v = undef)
def wpH (P : Program) (ops : Array Oper) (Q : Exit → Act → World → Prop) (S : World → Prop) (s : St) (fuel : Nat) (listed : Array Bool) (env : Env) (w : World) : Prop := ∀ a, Sat s a env → wpAnyH P .any ops (NoPanic Q) S fuel listed a w
def HQ (P : Program) (ops : Array Oper) (Q : Exit → Act → World → Prop) (S : World → Prop) (fuel : Nat) (listed : Array Bool) : Exit → Act → World → Prop
 | .normal, a, w => S w ∧ wpAnyH P .any ops (NoPanic Q) S fuel listed a w
 | e, a, w => NoPanic Q e a w
section
variable {P : Program} {ops : Array Oper} {Q : Exit → Act → World → Prop} {S : World → Prop} {s : St} {env : Env} {w : World} {rest : List Oper}
variable {d : Nat} {ty : TypeId} {pos : String} {aft : Array Edge} {fuel : Nat} {listed : Array Bool}
theorem Yld.of {op : Op} {v : Value} (h : ∀ a, Sat s a env → (execOp a.eval ⟨some d, op, ty, pos, aft, none⟩).run P w = .ok (.value v) w) : Yld P ops s env w ⟨some d, op, ty, pos, aft, none⟩ v := fun a ha => .inl ⟨by simp [Region.wanted], h a ha⟩
theorem Y.on {op : Op} {v : Value} {j sl : Nat} {b : Bool} (hs : (ops[j]?).bind (·.dst) = some sl) (hb : look env sl = some (.bool b)) (h : Yld P ops s env w ⟨some d, op, ty, pos, aft, none⟩ v) : Yld P ops s env w ⟨some d, op, ty, pos, aft, some (j, b)⟩ v := fun a ha => by
 have hy : yielded ops a.tmps j = some b := by simp [yielded, hs, ha.get sl _ hb]
 rcases h a ha with ⟨_, h⟩ | ⟨h, _⟩
 · exact .inl ⟨by simp [Region.wanted, hy], h⟩
 · simp [Region.wanted] at h
theorem Y.off {op : Op} {j sl : Nat} {b c : Bool} (hs : (ops[j]?).bind (·.dst) = some sl) (hb : look env sl = some (.bool c)) (hne : (c == b) = false) : Yld P ops s env w ⟨some d, op, ty, pos, aft, some (j, b)⟩ undef := fun a ha => by
 have hy : yielded ops a.tmps j = some c := by simp [yielded, hs, ha.get sl _ hb]
 refine .inr ⟨?_, rfl⟩
 have : (some c == some b) = false := by simpa using hne
 simp only [Region.wanted, hy, this]
theorem C.held {id : Nat} {l : List Oper} (S : World → Prop) (hm : P.follows .mixedOrders = true) (h : ∀ w', Ext w w' → w'.heap = w.heap → wpH P l.toArray Q S s l.length (Array.replicate l.length false) env w') : wpC P (.region id l.toArray true) Q s env w :=
 fun a ha => wp_region_noPanic (wp_region_held (S := S) hm (h _ (Ext.refl w).drew rfl a ha))
theorem H.take {o : Oper} {v : Value} (i : Nat) (hi : ops[i]? = some o) (hdst : o.dst = some d) (hs : Region.noSelect ops = true) (hf : Region.free .any ops listed i = true) (hr : (Region.ready .any ops listed).contains i = true)
    (hS : S w) (hy : ∀ w', S w' → Yld P ops s env w' o v) (hd : Nat.blt d s.n = true) (h : wpH P ops Q S s fuel (listed.setIfInBounds i true) ((d, v) :: env) w) : wpH P ops Q S s (fuel + 1) listed env w := fun a ha => by
  have hq : YieldsIf P ops S o v a := by
    rcases hy w hS a ha with ⟨h1, _⟩ | ⟨h1, h2⟩
    · refine .inl ⟨h1, fun w' hw' => ?_⟩
      rcases hy w' hw' a ha with ⟨_, h3⟩ | ⟨h3, _⟩
      · exact h3
      · rw [h1] at h3; cases h3
    · exact .inr ⟨h1, h2⟩
  exact wpAnyH_take hi hs hf hr (fun c a w h => h) hq hS (hdst ▸ h _ (ha.put d v hd))
theorem upon_HQ {o : Oper} {a : Act} {K : Act → World → Prop} {r : Result Next} (h : o.upon P a K (HQ P ops Q S fuel listed) r) : o.upon P a K (NoPanic Q) r := by
 have hl : LetsOut (HQ P ops Q S fuel listed) → LetsOut (NoPanic Q) := fun ⟨a, w, h⟩ => ⟨a, w, h⟩
 cases r with
 | ok n w' =>
  cases n <;> simp only [Oper.upon] at h ⊢ <;> first | exact h | exact Calls.mono h fun e w'' he => (by cases e <;> first | exact he | exact hl he)
 | halt x w' => cases x <;> simp only [Oper.upon] at h ⊢ <;> exact h
theorem H.only {o : Oper} (i : Nat) (hi : ops[i]? = some o) (hr : Region.ready .any ops listed = [i]) (h : wpE P ops (HQ P ops Q S fuel (listed.setIfInBounds i true)) s [o] env w) : wpH P ops Q S s (fuel + 1) listed env w := fun a ha => by
  refine wpAnyH_all hr (by simp) fun j hj => ?_
  obtain rfl : j = i := by simpa using hj
  have h1 := h a ha
  unfold wpList at h1
  unfold wpOp
  simp only [hi]
  split
  · rename_i hw
    rw [if_pos hw] at h1
    rcases h1 with h1 | ⟨h1, h2⟩
    · exact .inl (upon_HQ h1)
    · exact .inr ⟨h1, let ⟨a, w, h⟩ := h2; ⟨a, w, h⟩⟩
  · rename_i hw
    rw [if_neg hw] at h1
    exact h1
theorem H.back (hS : S w) (h : wpH P ops Q S s fuel listed env w) : wpE P ops (HQ P ops Q S fuel listed) s [] env w := fun a ha => ⟨hS, h a ha⟩
theorem H.done (hr : Region.ready .any ops listed = []) (h : wpX .normal Q s env w) : wpH P ops Q S s fuel listed env w := fun a ha => wpAnyH_done hr (NoPanic.normal (h a ha)) _
theorem Y.mv {x : Operand} {v : Value} (hx : ev env x = some v)   : Yld P ops s env w ⟨some d, .move x, ty, pos, aft, none⟩ (v) :=
 Yld.of (fun a ha => by simp [execOp, ha.ev hx])
theorem Y.asg {x : Operand} {v : Value} (hx : ev env x = some v)   : Yld P ops s env w ⟨some d, .assign x, ty, pos, aft, none⟩ (v) :=
 Yld.of (fun a ha => by simp [execOp, ha.ev hx])
theorem Y.pick {c x y : Operand} {b : Bool} {v : Value} (hc : ev env c = some (.bool b)) (hx : (bif b then ev env x else ev env y) = some v)   : Yld P ops s env w ⟨some d, .pick c x y, ty, pos, aft, none⟩ (v) :=
 Yld.of (fun a ha => by cases b <;> simp at hx <;> simp [execOp, ha.ev hc, ha.ev hx, asBool])
theorem Y.bin {op : BinOp} {t t2 : TypeId} {x y : Operand} {k : IntKind} {a b : Int} {v : Value} (hx : ev env x = some (.int k a)) (hy : ev env y = some (.int k b)) (hv : iop op k a b = some v)
      : Yld P ops s env w ⟨some d, .binOp op t x y t2, ty, pos, aft, none⟩ (v) :=
  Yld.of (fun a ha => by
    have := run_iop (P := P) t x y hv w
    simp only [execOp, ha.ev hx, ha.ev hy]
    rw [Sem.run_bind, this]; rfl)
theorem Y.quo {t t2 : TypeId} {x y : Operand} {k : IntKind} {a b c : Int} (hx : ev env x = some (.int k a)) (hy : ev env y = some (.int k b)) (hb : b ≠ 0) (hr : k.wrap (a.tdiv b) = c)
      : Yld P ops s env w ⟨some d, .binOp .quo t x y t2, ty, pos, aft, none⟩ (.int k c) :=
  Yld.of (fun a ha => by simp [execOp, ha.ev hx, ha.ev hy, eqGuard, binOp, Op.intDiv, hb, hr])
theorem Y.rem {t t2 : TypeId} {x y : Operand} {k : IntKind} {a b c : Int} (hx : ev env x = some (.int k a)) (hy : ev env y = some (.int k b)) (hb : b ≠ 0) (hr : a.tmod b = c)
      : Yld P ops s env w ⟨some d, .binOp .rem t x y t2, ty, pos, aft, none⟩ (.int k c) :=
  Yld.of (fun a ha => by simp [execOp, ha.ev hx, ha.ev hy, eqGuard, binOp, Op.intDiv, hb, hr])
theorem Y.conv {x : Operand} {src dst : TypeId} {ds : TypeDesc} {k0 k : IntKind} {a c : Int} (hx : ev env x = some (.int k0 a)) (hs : P.underlying src = some ds) (ht : P.underlying dst = some (.int k)) (hr : k.wrap a = c)
      : Yld P ops s env w ⟨some d, .convert src dst x, ty, pos, aft, none⟩ (.int k c) :=
  Yld.of (fun a ha => by simp [execOp, ha.ev hx, convert, run_underlying hs, run_underlying ht, Conv.intToInt, hr])
theorem Y.eqb {t t2 : TypeId} {x y : Operand} {a b : Bool} (hx : ev env x = some (.bool a)) (hy : ev env y = some (.bool b)) (ht : P.underlying t = some .bool)
      : Yld P ops s env w ⟨some d, .binOp .eql t x y t2, ty, pos, aft, none⟩ (.bool (a == b)) :=
  Yld.of (fun a' ha => by
    have h1 := run_eql_bool (P := P) w t a b ht
    simp [execOp, ha.ev hx, ha.ev hy, eqGuard, h1])
theorem Y.neb {t t2 : TypeId} {x y : Operand} {a b : Bool} (hx : ev env x = some (.bool a)) (hy : ev env y = some (.bool b)) (ht : P.underlying t = some .bool)
      : Yld P ops s env w ⟨some d, .binOp .neq t x y t2, ty, pos, aft, none⟩ (.bool (!(a == b))) :=
  Yld.of (fun a' ha => by
    have h1 := run_equal_bool (P := P) w t a b ht
    have h2 : (binOp .neq t (.bool a) (.bool b)).run P w = .ok (.bool (!(a == b))) w := by simp only [binOp]; simp [h1]
    simp only [execOp, ha.ev hx, ha.ev hy, eqGuard]
    simp [h2])
theorem Y.ext {x : Operand} {i : Nat} {vs : List Value} {v : Value} (hx : ev env x = some (.tuple vs.toArray)) (hv : vs[i]? = some v)   : Yld P ops s env w ⟨some d, .extract x i, ty, pos, aft, none⟩ (v) :=
 Yld.of (fun a ha => by simp [execOp, ha.ev hx, Instr.extract, hv])
theorem Y.fld {t : TypeId} {x : Operand} {f o b off : Nat} {fs : Array Field} {fd : Field} {sz : Nat} (hx : ev env x = some (.pointer (some ⟨b, off, none⟩))) (ht : P.underlying t = some (.struct fs)) (hf : fs[f]? = some fd) (ho : fd.offset = o)
  (hs : (P.info? fd.type).map (·.size) = some (sz + 1))   : Yld P ops s env w ⟨some d, .fieldAddr t x f, ty, pos, aft, none⟩ (.pointer (some ⟨b, off + o, none⟩)) :=
 Yld.of (fun a' ha => by
  subst ho
  cases hq : P.info? fd.type with
  | none => simp [hq] at hs
  | some inf =>
   have hs' : inf.size = sz + 1 := by simpa [hq] using hs
   simp [execOp, ha.ev hx, Instr.fieldAt, Instr.sureAddr, run_underlying ht, hf, fieldPlace, sizeOf, typeInfo, hq, hs', addr_add])
theorem Y.loadA {t : TypeId} {x : Operand} {b off : Nat} {cs : List Value} {ds : TypeDesc} (hx : ev env x = some (.pointer (some ⟨b, off, none⟩))) (ht : P.underlying t = some ds) (hna : (match ds with | .struct _ | .array _ _ => true | _ => false) = true)
  (hs : (P.info? t).map (·.size) = some cs.length) (hc : At w b off cs)   : Yld P ops s env w ⟨some d, .load t x, ty, pos, aft, none⟩ (.agg cs.toArray) :=
 Yld.of (fun a' ha => by
  have hagg : (isAgg t).run P w = .ok true w := by
   unfold isAgg
   rw [Sem.run_bind, run_underlying ht w]
   cases ds <;> simp_all
  have hl : (loadCells ⟨b, off, none⟩ cs.length).run P w = .ok cs.toArray w := run_loadCells_list (P := P) w ⟨b, off, none⟩ cs (fun j v hv => by rw [addr_add]; exact hc j v hv)
  cases hq : P.info? t with
  | none => simp [hq] at hs
  | some inf =>
   have hs' : inf.size = cs.length := by simpa [hq] using hs
   simp [execOp, ha.ev hx, Instr.loadAt, Instr.sureAddr, loadVar, hagg, sizeOf, typeInfo, hq, hs', hl])
theorem Y.build {t : TypeId} {xs : List (Nat × Operand)} {vs : List (Nat × Value)} {cs : List Value} (hx : evp env xs = some vs) (hb : (Instr.build t vs.toArray).run P w = .ok (.agg cs.toArray) w)
      : Yld P ops s env w ⟨some d, .build t xs.toArray, ty, pos, aft, none⟩ (.agg cs.toArray) :=
  Yld.of (fun a ha => by
    have e : (xs.toArray.map fun (i, x) => (i, a.eval x)) = vs.toArray := by rw [List.map_toArray, ← ha.evp hx]
    simp only [execOp]
    rw [e, Sem.run_bind, hb]; rfl)
theorem Y.lenv {t e : TypeId} {x : Operand} {n : Nat} {v : Value} (hx : ev env x = some v) (hR : ∃ a cap, v = .slice a n cap) (ht : P.underlying t = some (.slice e)) 
     : Yld P ops s env w ⟨some d, .call ⟨.builtin .len, #[x], #[t]⟩, ty, pos, aft, none⟩ (.int .i64 (n : Int)) := by
  obtain ⟨a, cap, rfl⟩ := hR
  exact Yld.of (fun a' ha => by simp [execOp, resolve, invoke, builtin, Builtin.len_, run_underlying ht, goInt, ha.ev hx])
theorem Y.idx {t e : TypeId} {x ix : Operand} {k : IntKind} {i : Int} {sz n : Nat} {v : Value} {cs : List Value} (hx : ev env x = some v) (hi : ev env ix = some (.int k i)) (hR : Rd w sz v n cs)
    (ht : P.underlying t = some (.slice e)) (hs : (P.info? e).map (·.size) = some sz) (h0 : 0 ≤ i) (h1 : i < n) (hsz : 0 < sz) 
     : Yld P ops s env w ⟨some d, .indexAddr t x ix, ty, pos, aft, none⟩ (.pointer (some (el v (i.toNat * sz)))) := by
  obtain ⟨a, cap, rfl, hc1, hc2, hl, ha0, hat⟩ := hR
  have hpos : 0 < cs.length := by rw [hl]; exact Nat.mul_pos (by omega) hsz
  obtain ⟨b, off, rfl⟩ := ha0 hpos
  refine Yld.of fun a' ha => ?_
  cases hq : P.info? e with
  | none => simp [hq] at hs
  | some inf =>
    have hs' : inf.size = sz := by simpa [hq] using hs
    simp [execOp, ha.ev hx, ha.ev hi, Instr.indexAt, asIntOf, run_underlying ht, sizeOf, typeInfo, hq, hs', h0, h1, addr_add, el, bs]
theorem Y.load {t : TypeId} {x : Operand} {ad : Addr} {u : Value} {ds : TypeDesc} (hx : ev env x = some (.pointer (some ad))) (ht : P.underlying t = some ds) (hna : (match ds with | .struct _ | .array _ _ => true | _ => false) = false)
  (hc : w.cell? ad = some u)   : Yld P ops s env w ⟨some d, .load t x, ty, pos, aft, none⟩ (u) :=
 Yld.of (fun a' ha => by
  have hagg : (isAgg t).run P w = .ok false w := by
   unfold isAgg
   rw [Sem.run_bind, run_underlying ht w]
   cases ds <;> simp_all
  simp [execOp, ha.ev hx, Instr.loadAt, Instr.sureAddr, loadVar, hagg, hc])
theorem Y.add {t t2 : TypeId} {x y : Operand} {a b : Int} (hx : ev env x = some (.int .i64 a)) (hy : ev env y = some (.int .i64 b)) (hr : -9223372036854775808 ≤ a + b ∧ a + b ≤ 9223372036854775807)
      : Yld P ops s env w ⟨some d, .binOp .add t x y t2, ty, pos, aft, none⟩ (.int .i64 (a + b)) :=
  Y.bin hx hy (v := .int .i64 (a + b)) (by simp only [iop]; rw [IntWalk.i64_in _ hr])
theorem Y.sub' {t t2 : TypeId} {x y : Operand} {a b : Int} (hx : ev env x = some (.int .i64 a)) (hy : ev env y = some (.int .i64 b)) (hr : -9223372036854775808 ≤ a - b ∧ a - b ≤ 9223372036854775807)
      : Yld P ops s env w ⟨some d, .binOp .sub t x y t2, ty, pos, aft, none⟩ (.int .i64 (a - b)) :=
  Y.bin hx hy (v := .int .i64 (a - b)) (by simp only [iop]; rw [IntWalk.i64_in _ hr])
end
end Go.Proofs.Ytbinlkobmlebpaa.Sym
