/- Texts of the claim, laid together: SymU, SymV. -/
import Derived.DeepKeys
import Derived.Laws.StructEq
import Derived.Defers
import Derived.Laws.IdiomStrings
import Derived.Conc.MuLone
import Derived.Test.YtcmgbjmcklfkcaaDoorG8
/- The walk by named slots, more operations. For whatever program. -/
namespace Go.Proofs.YtcmgbjmcklfkcaaDoor.Sym
set_option linter.unusedSimpArgs false
set_option linter.unusedVariables false
open Go.RowKit
/-- some cells of a variable -/
theorem M.bsub {w0 w : World} {S : Nat → Prop} {rs : List Rg} {b off n : Nat} {T : TypeId} {cs : List Value} (h : M w0 S w rs) (i : Nat) (hi : rs[i]? = some (Rg.blk b T cs)) : At w b off ((cs.drop off).take n) := fun j u hu => by
  rw [List.getElem?_take] at hu
  split at hu
  · rw [List.getElem?_drop] at hu; exact h.bcell i hi hu
  · cases hu
section
variable {P : Program} {ops : Array Oper} {Q : Exit → Act → World → Prop} {Qn Lq : Act → Prop} {s : St} {env : Env} {w0 w : World} {S : Nat → Prop} {rs : List Rg} {rest : List Oper}
variable {d : Nat} {ty : TypeId} {pos : String} {aft : Array Edge}
/-- a byte of a string -/
theorem run_idxS {t : TypeId} {b : ByteArray} {k : Nat} {kd : IntKind} {c : UInt8} (ht : P.underlying t = some .string) (hc : b[k]? = some c) : (Instr.index t (.string b) (.int kd (k : Int))).run P w = .ok (u8 c) w := by
  simp [Instr.index, asIntOf, run_underlying ht, hc]
theorem E.idxS {t : TypeId} {x ix : Operand} {b : ByteArray} {i : Int} {kd : IntKind} (k : Nat) (c : UInt8) (hx : ev env x = some (.string b)) (hi : ev env ix = some (.int kd i)) (hk : i = (k : Int)) (hc : b[k]? = some c) (ht : P.underlying t = some .string) (hd : Nat.blt d s.n = true)
    (h : wpE P ops Q s rest ((d, u8 c) :: env) w) : wpE P ops Q s (⟨some d, .index t x ix, ty, pos, aft, none⟩ :: rest) env w := by
  subst hk
  exact E.op (fun a ha => by simp only [execOp, ha.ev hx, ha.ev hi]; rw [Sem.run_bind, run_idxS ht hc]; rfl) hd h
theorem Q.idxS {t : TypeId} {x ix : Operand} {b : ByteArray} {i : Int} {kd : IntKind} (k : Nat) (c : UInt8) (hx : ev env x = some (.string b)) (hi : ev env ix = some (.int kd i)) (hk : i = (k : Int)) (hc : b[k]? = some c) (ht : P.underlying t = some .string) (hd : Nat.blt d s.n = true)
    (h : wpQ P ops w Qn s rest ((d, u8 c) :: env)) : wpQ P ops w Qn s (⟨some d, .index t x ix, ty, pos, aft, none⟩ :: rest) env := by
  subst hk
  exact Q.op (fun w' _ a ha => by simp only [execOp, ha.ev hx, ha.ev hi]; rw [Sem.run_bind, run_idxS ht hc]; rfl) hd h
theorem Y.idxS {t : TypeId} {x ix : Operand} {b : ByteArray} {i : Int} {kd : IntKind} (k : Nat) (c : UInt8) (hx : ev env x = some (.string b)) (hi : ev env ix = some (.int kd i)) (hk : i = (k : Int)) (hc : b[k]? = some c) (ht : P.underlying t = some .string) : Yld P ops s env w ⟨some d, .index t x ix, ty, pos, aft, none⟩ (u8 c) := by
  subst hk
  exact Yld.of (fun a ha => by simp only [execOp, ha.ev hx, ha.ev hi]; rw [Sem.run_bind, run_idxS ht hc]; rfl)
/-- two structs or arrays of numbers can be compared -/
def EqT (P : Program) (t : TypeId) (n : Nat) : Prop := P.eqGuardType P.depth t = false ∧ ∀ (w : World) (xs ys : List Int), xs.length = n → ys.length = n → ∃ r : Bool, (Op.equal t (.agg (xs.map i64).toArray) (.agg (ys.map i64).toArray)).run P w = .ok r w ∧ (r = true ↔ xs = ys)
theorem eqI {P : Program} {t : TypeId} (d : Nat) (w : World) (a b : Int) (h : P.underlying t = some (.int .i64)) : (Op.equalIn (d + 1) t (i64 a) (i64 b)).run P w = .ok (decide (a = b)) w := by
  rw [run_equalIn_int w d t .i64 .i64 a b h]
  congr 1
theorem eqF_nil {P : Program} (d : Nat) (w : World) (xs ys : Array Value) : (Op.eqFields d xs ys []).run P w = .ok (decide True) w := rfl
theorem eqF_cons {P : Program} {d : Nat} {w : World} {xs ys : Array Value} {f : Field} {fs : List Field} {a b : Value} {p q : Prop} [Decidable p] [Decidable q] (hn : (f.name != "_") = true) (ha : (part f.type xs f.offset).run P w = .ok a w) (hb : (part f.type ys f.offset).run P w = .ok b w)
    (he : (Op.equalIn d f.type a b).run P w = .ok (decide p) w) (hr : (Op.eqFields d xs ys fs).run P w = .ok (decide q) w) : (Op.eqFields d xs ys (f :: fs)).run P w = .ok (decide (p ∧ q)) w := by
  have hn' : f.name ≠ "_" := by simpa using hn
  simp only [Op.eqFields, if_pos hn']
  rw [Sem.run_bind, ha]
  simp only [Result.andThen_ok]
  rw [Sem.run_bind, hb]
  simp only [Result.andThen_ok]
  rw [Sem.run_bind, he]
  simp only [Result.andThen_ok]
  by_cases hp : p
  · simp only [hp, decide_true, Bool.not_true, Bool.false_eq_true, if_false, true_and]; exact hr
  · simp [hp]
theorem eqS {P : Program} {t : TypeId} {fs : List Field} {d : Nat} {xs ys : Array Value} {w : World} {p : Prop} [Decidable p] (ht : P.underlying t = some (.struct fs.toArray)) (hp : P.stoodInHeld t = false) (h : (Op.eqFields d xs ys fs).run P w = .ok (decide p) w) : (Op.equalIn (d + 1) t (.agg xs) (.agg ys)).run P w = .ok (decide p) w := by
  have e : P.fieldsOf t = fs.toArray := by simp [Program.fieldsOf, ht]
  rw [run_equalIn_struct w d t xs ys (by rw [e]; exact ht) hp, e]
  simpa using h
theorem run_eqA {t : TypeId} {n : Nat} (x y : Operand) (hE : EqT P t n) (xs ys : List Int) (h1 : xs.length = n) (h2 : ys.length = n) (op : BinOp) (ho : op = .eql ∨ op = .neq) : ∃ r : Bool, (r = true ↔ xs = ys) ∧ ∀ w : World,
    (do eqGuard op t x y (.agg (xs.map i64).toArray) (.agg (ys.map i64).toArray); binOp op t (.agg (xs.map i64).toArray) (.agg (ys.map i64).toArray) : Sem Value).run P w = .ok (.bool (if op = .eql then r else !r)) w := by
  refine ⟨decide (xs = ys), by simp, fun w => ?_⟩
  obtain ⟨r, hr, hi⟩ := hE.2 w xs ys h1 h2
  have e : r = decide (xs = ys) := by rw [Bool.eq_iff_iff]; simpa using hi
  subst e
  have hr' : (Op.equalIn 10000 t (.agg (xs.map i64).toArray) (.agg (ys.map i64).toArray)).run P w = .ok (decide (xs = ys)) w := hr
  rw [Sem.run_bind, run_eqGuard_agg w op t x y _ _ hE.1]
  rcases ho with rfl | rfl
  · simp only [Result.andThen_ok]
    rw [run_eql_struct, hr']; rfl
  · simp only [Result.andThen_ok]
    rw [run_neq_struct, hr']; rfl
theorem E.eqA {t t2 : TypeId} {n : Nat} {x y : Operand} (xs ys : List Int) (hE : EqT P t n) (hx : ev env x = some (.agg (xs.map i64).toArray)) (hy : ev env y = some (.agg (ys.map i64).toArray)) (h1 : xs.length = n) (h2 : ys.length = n) (hd : Nat.blt d s.n = true)
    (h : wpE P ops Q s rest ((d, .bool (decide (xs = ys))) :: env) w) : wpE P ops Q s (⟨some d, .binOp .eql t x y t2, ty, pos, aft, none⟩ :: rest) env w := by
  obtain ⟨r, hi, hr⟩ := run_eqA x y hE xs ys h1 h2 .eql (.inl rfl)
  have e : r = decide (xs = ys) := by rw [Bool.eq_iff_iff]; simpa using hi
  subst e
  exact E.op (fun a ha => by
    have := hr w
    simp only [execOp, ha.ev hx, ha.ev hy]
    rw [Sem.run_bind, this]; rfl) hd h
theorem E.neA {t t2 : TypeId} {n : Nat} {x y : Operand} (xs ys : List Int) (hE : EqT P t n) (hx : ev env x = some (.agg (xs.map i64).toArray)) (hy : ev env y = some (.agg (ys.map i64).toArray)) (h1 : xs.length = n) (h2 : ys.length = n) (hd : Nat.blt d s.n = true)
    (h : wpE P ops Q s rest ((d, .bool (decide (xs ≠ ys))) :: env) w) : wpE P ops Q s (⟨some d, .binOp .neq t x y t2, ty, pos, aft, none⟩ :: rest) env w := by
  obtain ⟨r, hi, hr⟩ := run_eqA x y hE xs ys h1 h2 .neq (.inr rfl)
  have e : (!r) = decide (xs ≠ ys) := by
    rw [Bool.eq_iff_iff]
    by_cases hxy : xs = ys <;> cases r <;> simp_all
  exact E.op (fun a ha => by
    have := hr w
    simp only [reduceCtorEq, if_false] at this
    rw [e] at this
    simp only [execOp, ha.ev hx, ha.ev hy]
    rw [Sem.run_bind, this]; rfl) hd h
theorem Q.eqA {t t2 : TypeId} {n : Nat} {x y : Operand} (xs ys : List Int) (hE : EqT P t n) (hx : ev env x = some (.agg (xs.map i64).toArray)) (hy : ev env y = some (.agg (ys.map i64).toArray)) (h1 : xs.length = n) (h2 : ys.length = n) (hd : Nat.blt d s.n = true)
    (h : wpQ P ops w Qn s rest ((d, .bool (decide (xs = ys))) :: env)) : wpQ P ops w Qn s (⟨some d, .binOp .eql t x y t2, ty, pos, aft, none⟩ :: rest) env := by
  obtain ⟨r, hi, hr⟩ := run_eqA x y hE xs ys h1 h2 .eql (.inl rfl)
  have e : r = decide (xs = ys) := by rw [Bool.eq_iff_iff]; simpa using hi
  subst e
  exact Q.op (fun w' _ a ha => by
    have := hr w'
    simp only [execOp, ha.ev hx, ha.ev hy]
    rw [Sem.run_bind, this]; rfl) hd h
theorem Q.neA {t t2 : TypeId} {n : Nat} {x y : Operand} (xs ys : List Int) (hE : EqT P t n) (hx : ev env x = some (.agg (xs.map i64).toArray)) (hy : ev env y = some (.agg (ys.map i64).toArray)) (h1 : xs.length = n) (h2 : ys.length = n) (hd : Nat.blt d s.n = true)
    (h : wpQ P ops w Qn s rest ((d, .bool (decide (xs ≠ ys))) :: env)) : wpQ P ops w Qn s (⟨some d, .binOp .neq t x y t2, ty, pos, aft, none⟩ :: rest) env := by
  obtain ⟨r, hi, hr⟩ := run_eqA x y hE xs ys h1 h2 .neq (.inr rfl)
  have e : (!r) = decide (xs ≠ ys) := by
    rw [Bool.eq_iff_iff]
    by_cases hxy : xs = ys <;> cases r <;> simp_all
  exact Q.op (fun w' _ a ha => by
    have := hr w'
    simp only [reduceCtorEq, if_false] at this
    rw [e] at this
    simp only [execOp, ha.ev hx, ha.ev hy]
    rw [Sem.run_bind, this]; rfl) hd h
theorem Y.eqA {t t2 : TypeId} {n : Nat} {x y : Operand} (xs ys : List Int) (hE : EqT P t n) (hx : ev env x = some (.agg (xs.map i64).toArray)) (hy : ev env y = some (.agg (ys.map i64).toArray)) (h1 : xs.length = n) (h2 : ys.length = n) : Yld P ops s env w ⟨some d, .binOp .eql t x y t2, ty, pos, aft, none⟩ (.bool (decide (xs = ys))) := by
  obtain ⟨r, hi, hr⟩ := run_eqA x y hE xs ys h1 h2 .eql (.inl rfl)
  have e : r = decide (xs = ys) := by rw [Bool.eq_iff_iff]; simpa using hi
  subst e
  exact Yld.of (fun a ha => by
    have := hr w
    simp only [execOp, ha.ev hx, ha.ev hy]
    rw [Sem.run_bind, this]; rfl)
/-! numbers that are not negative -/
theorem E.addN {t t2 : TypeId} {x y : Operand} {a b : Nat} (hx : ev env x = some (.int .i64 (a : Int))) (hy : ev env y = some (.int .i64 (b : Int))) (hr : a + b ≤ 9223372036854775807) (hd : Nat.blt d s.n = true) (h : wpE P ops Q s rest ((d, .int .i64 ((a + b : Nat) : Int)) :: env) w) : wpE P ops Q s (⟨some d, .binOp .add t x y t2, ty, pos, aft, none⟩ :: rest) env w :=
  E.add hx hy (by rw [← Int.natCast_add]; omega) hd (by rw [Int.natCast_add] at h; exact h)
theorem E.mulN {t t2 : TypeId} {x y : Operand} {a b : Nat} (hx : ev env x = some (.int .i64 (a : Int))) (hy : ev env y = some (.int .i64 (b : Int))) (hr : a * b ≤ 9223372036854775807) (hd : Nat.blt d s.n = true) (h : wpE P ops Q s rest ((d, .int .i64 ((a * b : Nat) : Int)) :: env) w) : wpE P ops Q s (⟨some d, .binOp .mul t x y t2, ty, pos, aft, none⟩ :: rest) env w :=
  E.mul hx hy (by rw [← Int.natCast_mul]; omega) hd (by rw [Int.natCast_mul] at h; exact h)
theorem E.subN {t t2 : TypeId} {x y : Operand} {a b : Nat} (hx : ev env x = some (.int .i64 (a : Int))) (hy : ev env y = some (.int .i64 (b : Int))) (hr : b ≤ a ∧ a ≤ 9223372036854775807) (hd : Nat.blt d s.n = true) (h : wpE P ops Q s rest ((d, .int .i64 ((a - b : Nat) : Int)) :: env) w) : wpE P ops Q s (⟨some d, .binOp .sub t x y t2, ty, pos, aft, none⟩ :: rest) env w :=
  E.sub' hx hy (by omega) hd (by rw [show ((a - b : Nat) : Int) = (a : Int) - (b : Int) by omega] at h; exact h)
theorem S.addN {t t2 : TypeId} {x y : Operand} {a b : Nat} (hx : ev env x = some (.int .i64 (a : Int))) (hy : ev env y = some (.int .i64 (b : Int))) (hr : a + b ≤ 9223372036854775807) (hd : Nat.blt d s.n = true) (h : wpS P ops Lq s rest ((d, .int .i64 ((a + b : Nat) : Int)) :: env) w) : wpS P ops Lq s (⟨some d, .binOp .add t x y t2, ty, pos, aft, none⟩ :: rest) env w :=
  S.add hx hy (by rw [← Int.natCast_add]; omega) hd (by rw [Int.natCast_add] at h; exact h)
theorem S.mulN {t t2 : TypeId} {x y : Operand} {a b : Nat} (hx : ev env x = some (.int .i64 (a : Int))) (hy : ev env y = some (.int .i64 (b : Int))) (hr : a * b ≤ 9223372036854775807) (hd : Nat.blt d s.n = true) (h : wpS P ops Lq s rest ((d, .int .i64 ((a * b : Nat) : Int)) :: env) w) : wpS P ops Lq s (⟨some d, .binOp .mul t x y t2, ty, pos, aft, none⟩ :: rest) env w :=
  S.mul hx hy (by rw [← Int.natCast_mul]; omega) hd (by rw [Int.natCast_mul] at h; exact h)
theorem S.subN {t t2 : TypeId} {x y : Operand} {a b : Nat} (hx : ev env x = some (.int .i64 (a : Int))) (hy : ev env y = some (.int .i64 (b : Int))) (hr : b ≤ a ∧ a ≤ 9223372036854775807) (hd : Nat.blt d s.n = true) (h : wpS P ops Lq s rest ((d, .int .i64 ((a - b : Nat) : Int)) :: env) w) : wpS P ops Lq s (⟨some d, .binOp .sub t x y t2, ty, pos, aft, none⟩ :: rest) env w :=
  S.sub' hx hy (by omega) hd (by rw [show ((a - b : Nat) : Int) = (a : Int) - (b : Int) by omega] at h; exact h)
theorem Q.addN {t t2 : TypeId} {x y : Operand} {a b : Nat} (hx : ev env x = some (.int .i64 (a : Int))) (hy : ev env y = some (.int .i64 (b : Int))) (hr : a + b ≤ 9223372036854775807) (hd : Nat.blt d s.n = true) (h : wpQ P ops w Qn s rest ((d, .int .i64 ((a + b : Nat) : Int)) :: env)) : wpQ P ops w Qn s (⟨some d, .binOp .add t x y t2, ty, pos, aft, none⟩ :: rest) env :=
  Q.add hx hy (by rw [← Int.natCast_add]; omega) hd (by rw [Int.natCast_add] at h; exact h)
theorem Q.mulN {t t2 : TypeId} {x y : Operand} {a b : Nat} (hx : ev env x = some (.int .i64 (a : Int))) (hy : ev env y = some (.int .i64 (b : Int))) (hr : a * b ≤ 9223372036854775807) (hd : Nat.blt d s.n = true) (h : wpQ P ops w Qn s rest ((d, .int .i64 ((a * b : Nat) : Int)) :: env)) : wpQ P ops w Qn s (⟨some d, .binOp .mul t x y t2, ty, pos, aft, none⟩ :: rest) env :=
  Q.mul hx hy (by rw [← Int.natCast_mul]; omega) hd (by rw [Int.natCast_mul] at h; exact h)
theorem Q.subN {t t2 : TypeId} {x y : Operand} {a b : Nat} (hx : ev env x = some (.int .i64 (a : Int))) (hy : ev env y = some (.int .i64 (b : Int))) (hr : b ≤ a ∧ a ≤ 9223372036854775807) (hd : Nat.blt d s.n = true) (h : wpQ P ops w Qn s rest ((d, .int .i64 ((a - b : Nat) : Int)) :: env)) : wpQ P ops w Qn s (⟨some d, .binOp .sub t x y t2, ty, pos, aft, none⟩ :: rest) env :=
  Q.sub' hx hy (by omega) hd (by rw [show ((a - b : Nat) : Int) = (a : Int) - (b : Int) by omega] at h; exact h)
theorem Y.addN {t t2 : TypeId} {x y : Operand} {a b : Nat} (hx : ev env x = some (.int .i64 (a : Int))) (hy : ev env y = some (.int .i64 (b : Int))) (hr : a + b ≤ 9223372036854775807) : Yld P ops s env w ⟨some d, .binOp .add t x y t2, ty, pos, aft, none⟩ (.int .i64 ((a + b : Nat) : Int)) := by
  rw [Int.natCast_add]
  exact Y.add hx hy (by rw [← Int.natCast_add]; omega)
theorem Y.mulN {t t2 : TypeId} {x y : Operand} {a b : Nat} (hx : ev env x = some (.int .i64 (a : Int))) (hy : ev env y = some (.int .i64 (b : Int))) (hr : a * b ≤ 9223372036854775807) : Yld P ops s env w ⟨some d, .binOp .mul t x y t2, ty, pos, aft, none⟩ (.int .i64 ((a * b : Nat) : Int)) := by
  rw [Int.natCast_mul]
  exact Y.mul hx hy (by rw [← Int.natCast_mul]; omega)
theorem Y.subN {t t2 : TypeId} {x y : Operand} {a b : Nat} (hx : ev env x = some (.int .i64 (a : Int))) (hy : ev env y = some (.int .i64 (b : Int))) (hr : b ≤ a ∧ a ≤ 9223372036854775807) : Yld P ops s env w ⟨some d, .binOp .sub t x y t2, ty, pos, aft, none⟩ (.int .i64 ((a - b : Nat) : Int)) := by
  rw [show ((a - b : Nat) : Int) = (a : Int) - (b : Int) by omega]
  exact Y.sub' hx hy (by omega)
/-- m[k], and no more -/
theorem E.lookup1 {α : Type} {t kt et : TypeId} {kk : IntKind} {enc : α → Value} {m : List (Int × α)} {r : Nat} {k : Int} {z : Value} {x y : Operand} (hx : ev env x = some (.map (some r))) (hy : ev env y = some (.int kk k)) (ht : P.underlying t = some (.map kt et)) (hk : P.underlying kt = some (.int kk)) (hz : (P.info? et).bind (·.zero) = some z) (hm : Mp w r kk enc m)
    (hd : Nat.blt d s.n = true) (h : wpE P ops Q s rest ((d, ((aget m k).map enc).getD z) :: env) w) : wpE P ops Q s (⟨some d, .lookup t x y false, ty, pos, aft, none⟩ :: rest) env w := E.lookup hx hy ht hk hz hm hd h
theorem Q.lookup1 {α : Type} {t kt et : TypeId} {kk : IntKind} {enc : α → Value} {m : List (Int × α)} {r : Nat} {k : Int} {z : Value} {x y : Operand} (hx : ev env x = some (.map (some r))) (hy : ev env y = some (.int kk k)) (ht : P.underlying t = some (.map kt et)) (hk : P.underlying kt = some (.int kk)) (hz : (P.info? et).bind (·.zero) = some z) (hm : Mp w r kk enc m)
    (hd : Nat.blt d s.n = true) (h : wpQ P ops w Qn s rest ((d, ((aget m k).map enc).getD z) :: env)) : wpQ P ops w Qn s (⟨some d, .lookup t x y false, ty, pos, aft, none⟩ :: rest) env := Q.lookup hx hy ht hk hz hm hd h
/-- v, ok := m[k] -/
theorem E.lookup2 {α : Type} {t kt et : TypeId} {kk : IntKind} {enc : α → Value} {m : List (Int × α)} {r : Nat} {k : Int} {z : Value} {x y : Operand} (hx : ev env x = some (.map (some r))) (hy : ev env y = some (.int kk k)) (ht : P.underlying t = some (.map kt et)) (hk : P.underlying kt = some (.int kk)) (hz : (P.info? et).bind (·.zero) = some z) (hm : Mp w r kk enc m)
    (hd : Nat.blt d s.n = true) (h : wpE P ops Q s rest ((d, .tuple #[((aget m k).map enc).getD z, .bool (aget m k).isSome]) :: env) w) : wpE P ops Q s (⟨some d, .lookup t x y true, ty, pos, aft, none⟩ :: rest) env w := E.lookup hx hy ht hk hz hm hd h
theorem Q.lookup2 {α : Type} {t kt et : TypeId} {kk : IntKind} {enc : α → Value} {m : List (Int × α)} {r : Nat} {k : Int} {z : Value} {x y : Operand} (hx : ev env x = some (.map (some r))) (hy : ev env y = some (.int kk k)) (ht : P.underlying t = some (.map kt et)) (hk : P.underlying kt = some (.int kk)) (hz : (P.info? et).bind (·.zero) = some z) (hm : Mp w r kk enc m)
    (hd : Nat.blt d s.n = true) (h : wpQ P ops w Qn s rest ((d, .tuple #[((aget m k).map enc).getD z, .bool (aget m k).isSome]) :: env)) : wpQ P ops w Qn s (⟨some d, .lookup t x y true, ty, pos, aft, none⟩ :: rest) env := Q.lookup hx hy ht hk hz hm hd h
end
end Go.Proofs.YtcmgbjmcklfkcaaDoor.Sym

/- The walk by named slots: bytes as strings, deferred calls and locks, lists of lists of bytes. For whatever program. -/
namespace Go.Proofs.YtcmgbjmcklfkcaaDoor.Sym
set_option linter.unusedSimpArgs false
set_option linter.unusedVariables false
open Go.RowKit

theorem look_val {env : Env} {d : Nat} {k : IntKind} {x y : Int} (h : look env d = some (.int k x)) (e : x = y) : look env d = some (.int k y) := by rw [h, e]
theorem look_eq {env : Env} {d : Nat} {x y : Value} (h : look env d = some x) (e : x = y) : look env d = some y := by rw [h, e]
/-! strings -/
abbrev str (l : List UInt8) : Value := .string ⟨l.toArray⟩
section
variable {P : Program} {ops : Array Oper} {Q : Exit → Act → World → Prop} {Qn Lq : Act → Prop} {s : St} {env : Env} {w0 w : World} {S : Nat → Prop} {rs : List Rg} {rest : List Oper}
variable {d : Nat} {ty : TypeId} {pos : String} {aft : Array Edge}
theorem run_bstr {src dst e : TypeId} {v : Value} {l : List UInt8} (hs : P.underlying src = some (.slice e)) (he : P.underlying e = some (.int .u8)) (hd : P.underlying dst = some .string) (h : RdL u8 w v l) : (convert src dst v).run P w = .ok (str l) w := by
  obtain ⟨a, cap, rfl, _, _, h4, h5, h6⟩ := h
  cases l with
  | nil =>
    cases a with
    | none => rw [run_convert_bytes_string w src dst e none _ cap hs he hd]; rfl
    | some a => exact run_convert_bytes_back w src dst e a cap [] hs he hd (fun j hj => by simp at hj)
  | cons c l =>
    obtain ⟨b, off, rfl⟩ := h5 (by simp)
    exact run_convert_bytes_back w src dst e ⟨b, off, none⟩ cap (c :: l) hs he hd (fun j hj => by
      have := h6 j (u8 (c :: l)[j]) (by rw [List.getElem?_map, List.getElem?_eq_getElem hj]; rfl)
      rw [show (Addr.add ⟨b, off, none⟩ j) = ⟨b, off + j, none⟩ from by unfold Addr.add; split <;> simp_all]; exact this)
theorem E.bstr {src dst e : TypeId} {x : Operand} {v : Value} {l : List UInt8} (hx : ev env x = some v) (h : RdL u8 w v l) (hs : P.underlying src = some (.slice e)) (he : P.underlying e = some (.int .u8)) (ht : P.underlying dst = some .string) (hd : Nat.blt d s.n = true)
    (k : wpE P ops Q s rest ((d, str l) :: env) w) : wpE P ops Q s (⟨some d, .convert src dst x, ty, pos, aft, none⟩ :: rest) env w :=
  E.op (fun a ha => by simp only [execOp, ha.ev hx]; rw [Sem.run_bind, run_bstr hs he ht h]; rfl) hd k
theorem Q.bstr {src dst e : TypeId} {x : Operand} {v : Value} {l : List UInt8} (hx : ev env x = some v) (h : RdL u8 w v l) (hs : P.underlying src = some (.slice e)) (he : P.underlying e = some (.int .u8)) (ht : P.underlying dst = some .string) (hd : Nat.blt d s.n = true)
    (k : wpQ P ops w Qn s rest ((d, str l) :: env)) : wpQ P ops w Qn s (⟨some d, .convert src dst x, ty, pos, aft, none⟩ :: rest) env :=
  Q.op (fun w' hw' a ha => by simp only [execOp, ha.ev hx]; rw [Sem.run_bind, run_bstr hs he ht (h.ext hw')]; rfl) hd k
theorem Y.bstr {src dst e : TypeId} {x : Operand} {v : Value} {l : List UInt8} (hx : ev env x = some v) (h : RdL u8 w v l) (hs : P.underlying src = some (.slice e)) (he : P.underlying e = some (.int .u8)) (ht : P.underlying dst = some .string) : Yld P ops s env w ⟨some d, .convert src dst x, ty, pos, aft, none⟩ (str l) :=
  Yld.of (fun a ha => by simp only [execOp, ha.ev hx]; rw [Sem.run_bind, run_bstr hs he ht h]; rfl)
theorem str_eq (l m : List UInt8) : ((ByteArray.mk l.toArray).toList == (ByteArray.mk m.toArray).toList) = decide (l = m) := by
  have e : ∀ l : List UInt8, (ByteArray.mk l.toArray).toList = l := fun l => by
    rw [ByteArray.toList_eq]
  rw [e, e, Bool.eq_iff_iff]; simp
theorem run_eqstr {t : TypeId} {x y : Operand} {l m : List UInt8} (op : BinOp) (ho : op = .eql ∨ op = .neq) : (do eqGuard op t x y (str l) (str m); binOp op t (str l) (str m) : Sem Value).run P w = .ok (.bool (if op = .eql then decide (l = m) else decide (l ≠ m))) w := by
  rcases ho with rfl | rfl
  · have := str_eq l m
    simp only [eqGuard, binOp_string_eql, this]; rfl
  · have := str_eq l m
    have e : decide (l ≠ m) = !decide (l = m) := by simp
    simp [eqGuard, binOp, Op.stringOp, this, e]
    rw [Bool.eq_iff_iff]; simp
theorem E.eqstr {t t2 : TypeId} {x y : Operand} {l m : List UInt8} (hx : ev env x = some (str l)) (hy : ev env y = some (str m)) (hd : Nat.blt d s.n = true) (h : wpE P ops Q s rest ((d, .bool (decide (l = m))) :: env) w) : wpE P ops Q s (⟨some d, .binOp .eql t x y t2, ty, pos, aft, none⟩ :: rest) env w :=
  E.op (fun a ha => by
    have := run_eqstr (P := P) (w := w) (t := t) (x := x) (y := y) (l := l) (m := m) .eql (.inl rfl)
    simp only [execOp, ha.ev hx, ha.ev hy]
    rw [Sem.run_bind, this]; rfl) hd h
theorem E.nestr {t t2 : TypeId} {x y : Operand} {l m : List UInt8} (hx : ev env x = some (str l)) (hy : ev env y = some (str m)) (hd : Nat.blt d s.n = true) (h : wpE P ops Q s rest ((d, .bool (decide (l ≠ m))) :: env) w) : wpE P ops Q s (⟨some d, .binOp .neq t x y t2, ty, pos, aft, none⟩ :: rest) env w :=
  E.op (fun a ha => by
    have := run_eqstr (P := P) (w := w) (t := t) (x := x) (y := y) (l := l) (m := m) .neq (.inr rfl)
    simp only [execOp, ha.ev hx, ha.ev hy]
    rw [Sem.run_bind, this]; rfl) hd h
theorem Q.eqstr {t t2 : TypeId} {x y : Operand} {l m : List UInt8} (hx : ev env x = some (str l)) (hy : ev env y = some (str m)) (hd : Nat.blt d s.n = true) (h : wpQ P ops w Qn s rest ((d, .bool (decide (l = m))) :: env)) : wpQ P ops w Qn s (⟨some d, .binOp .eql t x y t2, ty, pos, aft, none⟩ :: rest) env :=
  Q.op (fun w' _ a ha => by
    have := run_eqstr (P := P) (w := w') (t := t) (x := x) (y := y) (l := l) (m := m) .eql (.inl rfl)
    simp only [execOp, ha.ev hx, ha.ev hy]
    rw [Sem.run_bind, this]; rfl) hd h
theorem Q.nestr {t t2 : TypeId} {x y : Operand} {l m : List UInt8} (hx : ev env x = some (str l)) (hy : ev env y = some (str m)) (hd : Nat.blt d s.n = true) (h : wpQ P ops w Qn s rest ((d, .bool (decide (l ≠ m))) :: env)) : wpQ P ops w Qn s (⟨some d, .binOp .neq t x y t2, ty, pos, aft, none⟩ :: rest) env :=
  Q.op (fun w' _ a ha => by
    have := run_eqstr (P := P) (w := w') (t := t) (x := x) (y := y) (l := l) (m := m) .neq (.inr rfl)
    simp only [execOp, ha.ev hx, ha.ev hy]
    rw [Sem.run_bind, this]; rfl) hd h
theorem Y.eqstr {t t2 : TypeId} {x y : Operand} {l m : List UInt8} (hx : ev env x = some (str l)) (hy : ev env y = some (str m)) : Yld P ops s env w ⟨some d, .binOp .eql t x y t2, ty, pos, aft, none⟩ (.bool (decide (l = m))) :=
  Yld.of (fun a ha => by
    have := run_eqstr (P := P) (w := w) (t := t) (x := x) (y := y) (l := l) (m := m) .eql (.inl rfl)
    simp only [execOp, ha.ev hx, ha.ev hy]
    rw [Sem.run_bind, this]; rfl)
theorem Y.nestr {t t2 : TypeId} {x y : Operand} {l m : List UInt8} (hx : ev env x = some (str l)) (hy : ev env y = some (str m)) : Yld P ops s env w ⟨some d, .binOp .neq t x y t2, ty, pos, aft, none⟩ (.bool (decide (l ≠ m))) :=
  Yld.of (fun a ha => by
    have := run_eqstr (P := P) (w := w) (t := t) (x := x) (y := y) (l := l) (m := m) .neq (.inr rfl)
    simp only [execOp, ha.ev hx, ha.ev hy]
    rw [Sem.run_bind, this]; rfl)
/-- a slice that is only read, by list -/
abbrev Rg.rl (v : Value) (l : List UInt8) : Rg := Rg.rd 1 v l.length (l.map u8)
theorem M.rl {v : Value} {l : List UInt8} (h : M w0 S w rs) (i : Nat) (hi : rs[i]? = some (Rg.rl v l)) : RdL u8 w v l := h.ok hi
/-- []byte of a string -/
theorem E.strbM {src dst e : TypeId} {x : Operand} {l : List UInt8} (hM : M w0 S w rs) (hx : ev env x = some (str l)) (hs : P.underlying src = some .string) (ht : P.underlying dst = some (.slice e)) (he : P.underlying e = some (.int .u8)) (hl : l.length ≤ 1000000) (hd : Nat.blt d s.n = true)
    (h : ∀ v w', M w0 S w' (rs ++ [Rg.rl v l]) → wpE P ops Q s rest ((d, v) :: env) w') : wpE P ops Q s (⟨some d, .convert src dst x, ty, pos, aft, none⟩ :: rest) env w := by
  have hr := run_bytes_of_string (P := P) w src dst e ⟨l.toArray⟩ hs ht he
  have hsz : (ByteArray.mk l.toArray).size = l.length := by simp [ByteArray.size]
  have hge := grownCap_ge w (ByteArray.mk l.toArray).size 0 e
  have hle := grownCap_le_maxLen w (ByteArray.mk l.toArray).size 0 e (by rw [hsz]; unfold maxLen; omega)
  generalize grownCap w (ByteArray.mk l.toArray).size 0 e = cap at *
  rw [hsz] at hr hge
  refine E.op (v := .slice (some ⟨w.heap.size, 0, none⟩) l.length cap) (fun a ha => by simp only [execOp, ha.ev hx]; rw [Sem.run_bind, hr]; rfl) hd (h _ _ (hM.new ((Ext.refl w).drew.alloc _) ?_ ?_))
  · refine ⟨_, cap, rfl, hge, hle, by simp, fun _ => ⟨_, _, rfl⟩, fun j u hu => ?_⟩
    rw [List.getElem?_map] at hu
    have hj : j < l.length := by
      rcases Nat.lt_or_ge j l.length with h | h
      · exact h
      · rw [List.getElem?_eq_none h] at hu; cases hu
    rw [List.getElem?_eq_getElem hj] at hu
    have := World.cell?_alloc_mark w.drew (bytesRow ⟨l.toArray⟩ cap) e ((bytesRow ⟨l.toArray⟩ cap).size, (bytesRow ⟨l.toArray⟩ cap).size + 1) j
    rw [bytesRow_at ⟨l.toArray⟩ cap j (by simpa using hj)] at this
    rw [← Option.some.inj hu]
    simpa [bs] using this
  · rintro k ⟨_, rfl⟩; exact Nat.le_refl _
end
end Go.Proofs.YtcmgbjmcklfkcaaDoor.Sym
