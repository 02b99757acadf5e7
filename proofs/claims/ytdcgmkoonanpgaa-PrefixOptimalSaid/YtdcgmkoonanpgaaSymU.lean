/- The walk by named slots, more operations. For whatever program. -/
import Derived.Test.YtdcgmkoonanpgaaSymT
import Derived.DeepKeys
import Derived.Laws.StructEq
namespace Go.Proofs.Ytdcgmkoonanpgaa.Sym
set_option linter.unusedSimpArgs false
set_option linter.unusedVariables false
open Go.RowKit
/-- some cells of a variable -/
theorem M.bsub {w0 w : World} {S : Nat → Prop} {rs : List Rg} {b off n : Nat} {T : TypeId} {cs : List Value} (h : M w0 S w rs) (i : Nat) (hi : rs[i]? = some (Rg.blk b T cs)) : At w b off ((cs.drop off).take n) := fun j u hu => by
  rw [List.getElem?_take] at hu
  split at hu
  · rw [List.getElem?_drop] at hu; exact h.bcell i hi hu
  · cases hu
section
variable {P : Program} {ops : Array Oper} {Q : Exit → Act → World → Prop} {Qn Lq : Act → Prop} {s : St} {env : Env} {w0 w : World} {S : Nat → Prop} {rs : List Rg} {rest : List Oper}
variable {d : Nat} {ty : TypeId} {pos : String} {aft : Array Edge}
/-- a byte of a string -/
theorem run_idxS {t : TypeId} {b : ByteArray} {k : Nat} {kd : IntKind} {c : UInt8} (ht : P.underlying t = some .string) (hc : b[k]? = some c) : (Instr.index t (.string b) (.int kd (k : Int))).run P w = .ok (u8 c) w := by
  simp [Instr.index, asIntOf, run_underlying ht, hc]
theorem E.idxS {t : TypeId} {x ix : Operand} {b : ByteArray} {i : Int} {kd : IntKind} (k : Nat) (c : UInt8) (hx : ev env x = some (.string b)) (hi : ev env ix = some (.int kd i)) (hk : i = (k : Int)) (hc : b[k]? = some c) (ht : P.underlying t = some .string) (hd : Nat.blt d s.n = true)
    (h : wpE P ops Q s rest ((d, u8 c) :: env) w) : wpE P ops Q s (⟨some d, .index t x ix, ty, pos, aft, none⟩ :: rest) env w := by
  subst hk
  exact E.op (fun a ha => by simp only [execOp, ha.ev hx, ha.ev hi]; rw [Sem.run_bind, run_idxS ht hc]; rfl) hd h
theorem Q.idxS {t : TypeId} {x ix : Operand} {b : ByteArray} {i : Int} {kd : IntKind} (k : Nat) (c : UInt8) (hx : ev env x = some (.string b)) (hi : ev env ix = some (.int kd i)) (hk : i = (k : Int)) (hc : b[k]? = some c) (ht : P.underlying t = some .string) (hd : Nat.blt d s.n = true)
    (h : wpQ P ops w Qn s rest ((d, u8 c) :: env)) : wpQ P ops w Qn s (⟨some d, .index t x ix, ty, pos, aft, none⟩ :: rest) env := by
  subst hk
  exact Q.op (fun w' _ a ha => by simp only [execOp, ha.ev hx, ha.ev hi]; rw [Sem.run_bind, run_idxS ht hc]; rfl) hd h
theorem Y.idxS {t : TypeId} {x ix : Operand} {b : ByteArray} {i : Int} {kd : IntKind} (k : Nat) (c : UInt8) (hx : ev env x = some (.string b)) (hi : ev env ix = some (.int kd i)) (hk : i = (k : Int)) (hc : b[k]? = some c) (ht : P.underlying t = some .string) : Yld P ops s env w ⟨some d, .index t x ix, ty, pos, aft, none⟩ (u8 c) := by
  subst hk
  exact Yld.of (fun a ha => by simp only [execOp, ha.ev hx, ha.ev hi]; rw [Sem.run_bind, run_idxS ht hc]; rfl)
/-- two structs or arrays of numbers can be compared -/
def EqT (P : Program) (t : TypeId) (n : Nat) : Prop := P.eqGuardType P.depth t = false ∧ ∀ (w : World) (xs ys : List Int), xs.length = n → ys.length = n → ∃ r : Bool, (Op.equal t (.agg (xs.map i64).toArray) (.agg (ys.map i64).toArray)).run P w = .ok r w ∧ (r = true ↔ xs = ys)
theorem eqI {P : Program} {t : TypeId} (d : Nat) (w : World) (a b : Int) (h : P.underlying t = some (.int .i64)) : (Op.equalIn (d + 1) t (i64 a) (i64 b)).run P w = .ok (decide (a = b)) w := by
  rw [run_equalIn_int w d t .i64 .i64 a b h]
  congr 1
theorem eqF_nil {P : Program} (d : Nat) (w : World) (xs ys : Array Value) : (Op.eqFields d xs ys []).run P w = .ok (decide True) w := rfl
theorem eqF_cons {P : Program} {d : Nat} {w : World} {xs ys : Array Value} {f : Field} {fs : List Field} {a b : Value} {p q : Prop} [Decidable p] [Decidable q] (hn : (f.name != "_") = true) (ha : (part f.type xs f.offset).run P w = .ok a w) (hb : (part f.type ys f.offset).run P w = .ok b w)
    (he : (Op.equalIn d f.type a b).run P w = .ok (decide p) w) (hr : (Op.eqFields d xs ys fs).run P w = .ok (decide q) w) : (Op.eqFields d xs ys (f :: fs)).run P w = .ok (decide (p ∧ q)) w := by
  have hn' : f.name ≠ "_" := by simpa using hn
  simp only [Op.eqFields, if_pos hn']
  rw [Sem.run_bind, ha]
  simp only [Result.andThen_ok]
  rw [Sem.run_bind, hb]
  simp only [Result.andThen_ok]
  rw [Sem.run_bind, he]
  simp only [Result.andThen_ok]
  by_cases hp : p
  · simp only [hp, decide_true, Bool.not_true, Bool.false_eq_true, if_false, true_and]; exact hr
  · simp [hp]
theorem eqS {P : Program} {t : TypeId} {fs : List Field} {d : Nat} {xs ys : Array Value} {w : World} {p : Prop} [Decidable p] (ht : P.underlying t = some (.struct fs.toArray)) (hp : P.stoodInHeld t = false) (h : (Op.eqFields d xs ys fs).run P w = .ok (decide p) w) : (Op.equalIn (d + 1) t (.agg xs) (.agg ys)).run P w = .ok (decide p) w := by
  have e : P.fieldsOf t = fs.toArray := by simp [Program.fieldsOf, ht]
  rw [run_equalIn_struct w d t xs ys (by rw [e]; exact ht) hp, e]
  simpa using h
theorem run_eqA {t : TypeId} {n : Nat} (x y : Operand) (hE : EqT P t n) (xs ys : List Int) (h1 : xs.length = n) (h2 : ys.length = n) (op : BinOp) (ho : op = .eql ∨ op = .neq) : ∃ r : Bool, (r = true ↔ xs = ys) ∧ ∀ w : World,
    (do eqGuard op t x y (.agg (xs.map i64).toArray) (.agg (ys.map i64).toArray); binOp op t (.agg (xs.map i64).toArray) (.agg (ys.map i64).toArray) : Sem Value).run P w = .ok (.bool (if op = .eql then r else !r)) w := by
  refine ⟨decide (xs = ys), by simp, fun w => ?_⟩
  obtain ⟨r, hr, hi⟩ := hE.2 w xs ys h1 h2
  have e : r = decide (xs = ys) := by rw [Bool.eq_iff_iff]; simpa using hi
  subst e
  have hr' : (Op.equalIn 10000 t (.agg (xs.map i64).toArray) (.agg (ys.map i64).toArray)).run P w = .ok (decide (xs = ys)) w := hr
  rw [Sem.run_bind, run_eqGuard_agg w op t x y _ _ hE.1]
  rcases ho with rfl | rfl
  · simp only [Result.andThen_ok]
    rw [run_eql_struct, hr']; rfl
  · simp only [Result.andThen_ok]
    rw [run_neq_struct, hr']; rfl
theorem E.eqA {t t2 : TypeId} {n : Nat} {x y : Operand} (xs ys : List Int) (hE : EqT P t n) (hx : ev env x = some (.agg (xs.map i64).toArray)) (hy : ev env y = some (.agg (ys.map i64).toArray)) (h1 : xs.length = n) (h2 : ys.length = n) (hd : Nat.blt d s.n = true)
    (h : wpE P ops Q s rest ((d, .bool (decide (xs = ys))) :: env) w) : wpE P ops Q s (⟨some d, .binOp .eql t x y t2, ty, pos, aft, none⟩ :: rest) env w := by
  obtain ⟨r, hi, hr⟩ := run_eqA x y hE xs ys h1 h2 .eql (.inl rfl)
  have e : r = decide (xs = ys) := by rw [Bool.eq_iff_iff]; simpa using hi
  subst e
  exact E.op (fun a ha => by
    have := hr w
    simp only [execOp, ha.ev hx, ha.ev hy]
    rw [Sem.run_bind, this]; rfl) hd h
theorem E.neA {t t2 : TypeId} {n : Nat} {x y : Operand} (xs ys : List Int) (hE : EqT P t n) (hx : ev env x = some (.agg (xs.map i64).toArray)) (hy : ev env y = some (.agg (ys.map i64).toArray)) (h1 : xs.length = n) (h2 : ys.length = n) (hd : Nat.blt d s.n = true)
    (h : wpE P ops Q s rest ((d, .bool (decide (xs ≠ ys))) :: env) w) : wpE P ops Q s (⟨some d, .binOp .neq t x y t2, ty, pos, aft, none⟩ :: rest) env w := by
  obtain ⟨r, hi, hr⟩ := run_eqA x y hE xs ys h1 h2 .neq (.inr rfl)
  have e : (!r) = decide (xs ≠ ys) := by
    rw [Bool.eq_iff_iff]
    by_cases hxy : xs = ys <;> cases r <;> simp_all
  exact E.op (fun a ha => by
    have := hr w
    simp only [reduceCtorEq, if_false] at this
    rw [e] at this
    simp only [execOp, ha.ev hx, ha.ev hy]
    rw [Sem.run_bind, this]; rfl) hd h
theorem Q.eqA {t t2 : TypeId} {n : Nat} {x y : Operand} (xs ys : List Int) (hE : EqT P t n) (hx : ev env x = some (.agg (xs.map i64).toArray)) (hy : ev env y = some (.agg (ys.map i64).toArray)) (h1 : xs.length = n) (h2 : ys.length = n) (hd : Nat.blt d s.n = true)
    (h : wpQ P ops w Qn s rest ((d, .bool (decide (xs = ys))) :: env)) : wpQ P ops w Qn s (⟨some d, .binOp .eql t x y t2, ty, pos, aft, none⟩ :: rest) env := by
  obtain ⟨r, hi, hr⟩ := run_eqA x y hE xs ys h1 h2 .eql (.inl rfl)
  have e : r = decide (xs = ys) := by rw [Bool.eq_iff_iff]; simpa using hi
  subst e
  exact Q.op (fun w' _ a ha => by
    have := hr w'
    simp only [execOp, ha.ev hx, ha.ev hy]
    rw [Sem.run_bind, this]; rfl) hd h
theorem Q.neA {t t2 : TypeId} {n : Nat} {x y : Operand} (xs ys : List Int) (hE : EqT P t n) (hx : ev env x = some (.agg (xs.map i64).toArray)) (hy : ev env y = some (.agg (ys.map i64).toArray)) (h1 : xs.length = n) (h2 : ys.length = n) (hd : Nat.blt d s.n = true)
    (h : wpQ P ops w Qn s rest ((d, .bool (decide (xs ≠ ys))) :: env)) : wpQ P ops w Qn s (⟨some d, .binOp .neq t x y t2, ty, pos, aft, none⟩ :: rest) env := by
  obtain ⟨r, hi, hr⟩ := run_eqA x y hE xs ys h1 h2 .neq (.inr rfl)
  have e : (!r) = decide (xs ≠ ys) := by
    rw [Bool.eq_iff_iff]
    by_cases hxy : xs = ys <;> cases r <;> simp_all
  exact Q.op (fun w' _ a ha => by
    have := hr w'
    simp only [reduceCtorEq, if_false] at this
    rw [e] at this
    simp only [execOp, ha.ev hx, ha.ev hy]
    rw [Sem.run_bind, this]; rfl) hd h
theorem Y.eqA {t t2 : TypeId} {n : Nat} {x y : Operand} (xs ys : List Int) (hE : EqT P t n) (hx : ev env x = some (.agg (xs.map i64).toArray)) (hy : ev env y = some (.agg (ys.map i64).toArray)) (h1 : xs.length = n) (h2 : ys.length = n) : Yld P ops s env w ⟨some d, .binOp .eql t x y t2, ty, pos, aft, none⟩ (.bool (decide (xs = ys))) := by
  obtain ⟨r, hi, hr⟩ := run_eqA x y hE xs ys h1 h2 .eql (.inl rfl)
  have e : r = decide (xs = ys) := by rw [Bool.eq_iff_iff]; simpa using hi
  subst e
  exact Yld.of (fun a ha => by
    have := hr w
    simp only [execOp, ha.ev hx, ha.ev hy]
    rw [Sem.run_bind, this]; rfl)
/-! numbers that are not negative -/
theorem E.addN {t t2 : TypeId} {x y : Operand} {a b : Nat} (hx : ev env x = some (.int .i64 (a : Int))) (hy : ev env y = some (.int .i64 (b : Int))) (hr : a + b ≤ 9223372036854775807) (hd : Nat.blt d s.n = true) (h : wpE P ops Q s rest ((d, .int .i64 ((a + b : Nat) : Int)) :: env) w) : wpE P ops Q s (⟨some d, .binOp .add t x y t2, ty, pos, aft, none⟩ :: rest) env w :=
  E.add hx hy (by rw [← Int.natCast_add]; omega) hd (by rw [Int.natCast_add] at h; exact h)
theorem E.mulN {t t2 : TypeId} {x y : Operand} {a b : Nat} (hx : ev env x = some (.int .i64 (a : Int))) (hy : ev env y = some (.int .i64 (b : Int))) (hr : a * b ≤ 9223372036854775807) (hd : Nat.blt d s.n = true) (h : wpE P ops Q s rest ((d, .int .i64 ((a * b : Nat) : Int)) :: env) w) : wpE P ops Q s (⟨some d, .binOp .mul t x y t2, ty, pos, aft, none⟩ :: rest) env w :=
  E.mul hx hy (by rw [← Int.natCast_mul]; omega) hd (by rw [Int.natCast_mul] at h; exact h)
theorem E.subN {t t2 : TypeId} {x y : Operand} {a b : Nat} (hx : ev env x = some (.int .i64 (a : Int))) (hy : ev env y = some (.int .i64 (b : Int))) (hr : b ≤ a ∧ a ≤ 9223372036854775807) (hd : Nat.blt d s.n = true) (h : wpE P ops Q s rest ((d, .int .i64 ((a - b : Nat) : Int)) :: env) w) : wpE P ops Q s (⟨some d, .binOp .sub t x y t2, ty, pos, aft, none⟩ :: rest) env w :=
  E.sub' hx hy (by omega) hd (by rw [show ((a - b : Nat) : Int) = (a : Int) - (b : Int) by omega] at h; exact h)
theorem S.addN {t t2 : TypeId} {x y : Operand} {a b : Nat} (hx : ev env x = some (.int .i64 (a : Int))) (hy : ev env y = some (.int .i64 (b : Int))) (hr : a + b ≤ 9223372036854775807) (hd : Nat.blt d s.n = true) (h : wpS P ops Lq s rest ((d, .int .i64 ((a + b : Nat) : Int)) :: env) w) : wpS P ops Lq s (⟨some d, .binOp .add t x y t2, ty, pos, aft, none⟩ :: rest) env w :=
  S.add hx hy (by rw [← Int.natCast_add]; omega) hd (by rw [Int.natCast_add] at h; exact h)
theorem S.mulN {t t2 : TypeId} {x y : Operand} {a b : Nat} (hx : ev env x = some (.int .i64 (a : Int))) (hy : ev env y = some (.int .i64 (b : Int))) (hr : a * b ≤ 9223372036854775807) (hd : Nat.blt d s.n = true) (h : wpS P ops Lq s rest ((d, .int .i64 ((a * b : Nat) : Int)) :: env) w) : wpS P ops Lq s (⟨some d, .binOp .mul t x y t2, ty, pos, aft, none⟩ :: rest) env w :=
  S.mul hx hy (by rw [← Int.natCast_mul]; omega) hd (by rw [Int.natCast_mul] at h; exact h)
theorem S.subN {t t2 : TypeId} {x y : Operand} {a b : Nat} (hx : ev env x = some (.int .i64 (a : Int))) (hy : ev env y = some (.int .i64 (b : Int))) (hr : b ≤ a ∧ a ≤ 9223372036854775807) (hd : Nat.blt d s.n = true) (h : wpS P ops Lq s rest ((d, .int .i64 ((a - b : Nat) : Int)) :: env) w) : wpS P ops Lq s (⟨some d, .binOp .sub t x y t2, ty, pos, aft, none⟩ :: rest) env w :=
  S.sub' hx hy (by omega) hd (by rw [show ((a - b : Nat) : Int) = (a : Int) - (b : Int) by omega] at h; exact h)
theorem Q.addN {t t2 : TypeId} {x y : Operand} {a b : Nat} (hx : ev env x = some (.int .i64 (a : Int))) (hy : ev env y = some (.int .i64 (b : Int))) (hr : a + b ≤ 9223372036854775807) (hd : Nat.blt d s.n = true) (h : wpQ P ops w Qn s rest ((d, .int .i64 ((a + b : Nat) : Int)) :: env)) : wpQ P ops w Qn s (⟨some d, .binOp .add t x y t2, ty, pos, aft, none⟩ :: rest) env :=
  Q.add hx hy (by rw [← Int.natCast_add]; omega) hd (by rw [Int.natCast_add] at h; exact h)
theorem Q.mulN {t t2 : TypeId} {x y : Operand} {a b : Nat} (hx : ev env x = some (.int .i64 (a : Int))) (hy : ev env y = some (.int .i64 (b : Int))) (hr : a * b ≤ 9223372036854775807) (hd : Nat.blt d s.n = true) (h : wpQ P ops w Qn s rest ((d, .int .i64 ((a * b : Nat) : Int)) :: env)) : wpQ P ops w Qn s (⟨some d, .binOp .mul t x y t2, ty, pos, aft, none⟩ :: rest) env :=
  Q.mul hx hy (by rw [← Int.natCast_mul]; omega) hd (by rw [Int.natCast_mul] at h; exact h)
theorem Q.subN {t t2 : TypeId} {x y : Operand} {a b : Nat} (hx : ev env x = some (.int .i64 (a : Int))) (hy : ev env y = some (.int .i64 (b : Int))) (hr : b ≤ a ∧ a ≤ 9223372036854775807) (hd : Nat.blt d s.n = true) (h : wpQ P ops w Qn s rest ((d, .int .i64 ((a - b : Nat) : Int)) :: env)) : wpQ P ops w Qn s (⟨some d, .binOp .sub t x y t2, ty, pos, aft, none⟩ :: rest) env :=
  Q.sub' hx hy (by omega) hd (by rw [show ((a - b : Nat) : Int) = (a : Int) - (b : Int) by omega] at h; exact h)
theorem Y.addN {t t2 : TypeId} {x y : Operand} {a b : Nat} (hx : ev env x = some (.int .i64 (a : Int))) (hy : ev env y = some (.int .i64 (b : Int))) (hr : a + b ≤ 9223372036854775807) : Yld P ops s env w ⟨some d, .binOp .add t x y t2, ty, pos, aft, none⟩ (.int .i64 ((a + b : Nat) : Int)) := by
  rw [Int.natCast_add]
  exact Y.add hx hy (by rw [← Int.natCast_add]; omega)
theorem Y.mulN {t t2 : TypeId} {x y : Operand} {a b : Nat} (hx : ev env x = some (.int .i64 (a : Int))) (hy : ev env y = some (.int .i64 (b : Int))) (hr : a * b ≤ 9223372036854775807) : Yld P ops s env w ⟨some d, .binOp .mul t x y t2, ty, pos, aft, none⟩ (.int .i64 ((a * b : Nat) : Int)) := by
  rw [Int.natCast_mul]
  exact Y.mul hx hy (by rw [← Int.natCast_mul]; omega)
theorem Y.subN {t t2 : TypeId} {x y : Operand} {a b : Nat} (hx : ev env x = some (.int .i64 (a : Int))) (hy : ev env y = some (.int .i64 (b : Int))) (hr : b ≤ a ∧ a ≤ 9223372036854775807) : Yld P ops s env w ⟨some d, .binOp .sub t x y t2, ty, pos, aft, none⟩ (.int .i64 ((a - b : Nat) : Int)) := by
  rw [show ((a - b : Nat) : Int) = (a : Int) - (b : Int) by omega]
  exact Y.sub' hx hy (by omega)
/-- m[k], and no more -/
theorem E.lookup1 {α : Type} {t kt et : TypeId} {kk : IntKind} {enc : α → Value} {m : List (Int × α)} {r : Nat} {k : Int} {z : Value} {x y : Operand} (hx : ev env x = some (.map (some r))) (hy : ev env y = some (.int kk k)) (ht : P.underlying t = some (.map kt et)) (hk : P.underlying kt = some (.int kk)) (hz : (P.info? et).bind (·.zero) = some z) (hm : Mp w r kk enc m)
    (hd : Nat.blt d s.n = true) (h : wpE P ops Q s rest ((d, ((aget m k).map enc).getD z) :: env) w) : wpE P ops Q s (⟨some d, .lookup t x y false, ty, pos, aft, none⟩ :: rest) env w := E.lookup hx hy ht hk hz hm hd h
theorem Q.lookup1 {α : Type} {t kt et : TypeId} {kk : IntKind} {enc : α → Value} {m : List (Int × α)} {r : Nat} {k : Int} {z : Value} {x y : Operand} (hx : ev env x = some (.map (some r))) (hy : ev env y = some (.int kk k)) (ht : P.underlying t = some (.map kt et)) (hk : P.underlying kt = some (.int kk)) (hz : (P.info? et).bind (·.zero) = some z) (hm : Mp w r kk enc m)
    (hd : Nat.blt d s.n = true) (h : wpQ P ops w Qn s rest ((d, ((aget m k).map enc).getD z) :: env)) : wpQ P ops w Qn s (⟨some d, .lookup t x y false, ty, pos, aft, none⟩ :: rest) env := Q.lookup hx hy ht hk hz hm hd h
/-- v, ok := m[k] -/
theorem E.lookup2 {α : Type} {t kt et : TypeId} {kk : IntKind} {enc : α → Value} {m : List (Int × α)} {r : Nat} {k : Int} {z : Value} {x y : Operand} (hx : ev env x = some (.map (some r))) (hy : ev env y = some (.int kk k)) (ht : P.underlying t = some (.map kt et)) (hk : P.underlying kt = some (.int kk)) (hz : (P.info? et).bind (·.zero) = some z) (hm : Mp w r kk enc m)
    (hd : Nat.blt d s.n = true) (h : wpE P ops Q s rest ((d, .tuple #[((aget m k).map enc).getD z, .bool (aget m k).isSome]) :: env) w) : wpE P ops Q s (⟨some d, .lookup t x y true, ty, pos, aft, none⟩ :: rest) env w := E.lookup hx hy ht hk hz hm hd h
theorem Q.lookup2 {α : Type} {t kt et : TypeId} {kk : IntKind} {enc : α → Value} {m : List (Int × α)} {r : Nat} {k : Int} {z : Value} {x y : Operand} (hx : ev env x = some (.map (some r))) (hy : ev env y = some (.int kk k)) (ht : P.underlying t = some (.map kt et)) (hk : P.underlying kt = some (.int kk)) (hz : (P.info? et).bind (·.zero) = some z) (hm : Mp w r kk enc m)
    (hd : Nat.blt d s.n = true) (h : wpQ P ops w Qn s rest ((d, .tuple #[((aget m k).map enc).getD z, .bool (aget m k).isSome]) :: env)) : wpQ P ops w Qn s (⟨some d, .lookup t x y true, ty, pos, aft, none⟩ :: rest) env := Q.lookup hx hy ht hk hz hm hd h
end
end Go.Proofs.Ytdcgmkoonanpgaa.Sym
