/- The walk by named slots, more operations: numbers, slices that are read, slices of the call's own. For whatever program. -/
import Derived.Test.YtdcgmkoonanpgaaSym
namespace Go.Proofs.Ytdcgmkoonanpgaa.Sym
set_option linter.unusedSimpArgs false
set_option linter.unusedVariables false
open Go.RowKit

section
variable {P : Program} {ops : Array Oper} {Q : Exit → Act → World → Prop} {s : St} {env : Env} {w : World} {rest : List Oper}
variable {d : Nat} {ty : TypeId} {pos : String} {aft : Array Edge}

/-! numbers -/
theorem E.add {t t2 : TypeId} {x y : Operand} {a b : Int} (hx : ev env x = some (.int .i64 a)) (hy : ev env y = some (.int .i64 b)) (hr : -9223372036854775808 ≤ a + b ∧ a + b ≤ 9223372036854775807)
    (hd : Nat.blt d s.n = true) (h : wpE P ops Q s rest ((d, .int .i64 (a + b)) :: env) w) : wpE P ops Q s (⟨some d, .binOp .add t x y t2, ty, pos, aft, none⟩ :: rest) env w :=
  E.bin hx hy (v := .int .i64 (a + b)) (by simp only [iop]; rw [IntWalk.i64_in _ hr]) hd h
theorem E.sub' {t t2 : TypeId} {x y : Operand} {a b : Int} (hx : ev env x = some (.int .i64 a)) (hy : ev env y = some (.int .i64 b)) (hr : -9223372036854775808 ≤ a - b ∧ a - b ≤ 9223372036854775807)
    (hd : Nat.blt d s.n = true) (h : wpE P ops Q s rest ((d, .int .i64 (a - b)) :: env) w) : wpE P ops Q s (⟨some d, .binOp .sub t x y t2, ty, pos, aft, none⟩ :: rest) env w :=
  E.bin hx hy (v := .int .i64 (a - b)) (by simp only [iop]; rw [IntWalk.i64_in _ hr]) hd h
theorem E.mul {t t2 : TypeId} {x y : Operand} {a b : Int} (hx : ev env x = some (.int .i64 a)) (hy : ev env y = some (.int .i64 b)) (hr : -9223372036854775808 ≤ a * b ∧ a * b ≤ 9223372036854775807)
    (hd : Nat.blt d s.n = true) (h : wpE P ops Q s rest ((d, .int .i64 (a * b)) :: env) w) : wpE P ops Q s (⟨some d, .binOp .mul t x y t2, ty, pos, aft, none⟩ :: rest) env w :=
  E.bin hx hy (v := .int .i64 (a * b)) (by simp only [iop]; rw [IntWalk.i64_in _ hr]) hd h
/-- the result is told by an equation -/
theorem E.binw {op : BinOp} {t t2 : TypeId} {x y : Operand} {k : IntKind} {a b : Int} {v v' : Value} (hx : ev env x = some (.int k a)) (hy : ev env y = some (.int k b)) (hv : iop op k a b = some v) (he : v = v')
    (hd : Nat.blt d s.n = true) (h : wpE P ops Q s rest ((d, v') :: env) w) : wpE P ops Q s (⟨some d, .binOp op t x y t2, ty, pos, aft, none⟩ :: rest) env w :=
  E.bin hx hy (hv.trans (congrArg some he)) hd h
theorem E.quo {t t2 : TypeId} {x y : Operand} {k : IntKind} {a b c : Int} (hx : ev env x = some (.int k a)) (hy : ev env y = some (.int k b)) (hb : b ≠ 0) (hr : k.wrap (a.tdiv b) = c)
    (hd : Nat.blt d s.n = true) (h : wpE P ops Q s rest ((d, .int k c) :: env) w) : wpE P ops Q s (⟨some d, .binOp .quo t x y t2, ty, pos, aft, none⟩ :: rest) env w :=
  E.op (fun a ha => by simp [execOp, ha.ev hx, ha.ev hy, eqGuard, binOp, Op.intDiv, hb, hr]) hd h
theorem E.rem {t t2 : TypeId} {x y : Operand} {k : IntKind} {a b c : Int} (hx : ev env x = some (.int k a)) (hy : ev env y = some (.int k b)) (hb : b ≠ 0) (hr : a.tmod b = c)
    (hd : Nat.blt d s.n = true) (h : wpE P ops Q s rest ((d, .int k c) :: env) w) : wpE P ops Q s (⟨some d, .binOp .rem t x y t2, ty, pos, aft, none⟩ :: rest) env w :=
  E.op (fun a ha => by simp [execOp, ha.ev hx, ha.ev hy, eqGuard, binOp, Op.intDiv, hb, hr]) hd h
theorem E.shl {t t2 : TypeId} {x y : Operand} {k yk : IntKind} {a b c : Int} (hx : ev env x = some (.int k a)) (hy : ev env y = some (.int yk b)) (hb : 0 ≤ b) (hr : k.wrap (a * 2 ^ min b.toNat k.bits) = c)
    (hd : Nat.blt d s.n = true) (h : wpE P ops Q s rest ((d, .int k c) :: env) w) : wpE P ops Q s (⟨some d, .binOp .shl t x y t2, ty, pos, aft, none⟩ :: rest) env w :=
  E.op (fun a ha => by
    have hb' : ¬ b < 0 := by omega
    simp [execOp, ha.ev hx, ha.ev hy, eqGuard, binOp, Op.shift, hb', hr]) hd h
theorem E.shr {t t2 : TypeId} {x y : Operand} {k yk : IntKind} {a b c : Int} (hx : ev env x = some (.int k a)) (hy : ev env y = some (.int yk b)) (hb : 0 ≤ b) (hr : a / 2 ^ min b.toNat k.bits = c)
    (hd : Nat.blt d s.n = true) (h : wpE P ops Q s rest ((d, .int k c) :: env) w) : wpE P ops Q s (⟨some d, .binOp .shr t x y t2, ty, pos, aft, none⟩ :: rest) env w :=
  E.op (fun a' ha => by
    have hs := shift_shr_any k yk a b hb
    simp [execOp, ha.ev hx, ha.ev hy, eqGuard, binOp, hs, hr]) hd h
theorem E.conv {x : Operand} {src dst : TypeId} {ds : TypeDesc} {k0 k : IntKind} {a c : Int} (hx : ev env x = some (.int k0 a)) (hs : P.underlying src = some ds) (ht : P.underlying dst = some (.int k)) (hr : k.wrap a = c)
    (hd : Nat.blt d s.n = true) (h : wpE P ops Q s rest ((d, .int k c) :: env) w) : wpE P ops Q s (⟨some d, .convert src dst x, ty, pos, aft, none⟩ :: rest) env w :=
  E.op (fun a ha => by simp [execOp, ha.ev hx, convert, run_underlying hs, run_underlying ht, Conv.intToInt, hr]) hd h
theorem E.not {x : Operand} {t : TypeId} {b : Bool} (hx : ev env x = some (.bool b)) (hd : Nat.blt d s.n = true) (h : wpE P ops Q s rest ((d, .bool (!b)) :: env) w) : wpE P ops Q s (⟨some d, .unOp .not t x, ty, pos, aft, none⟩ :: rest) env w :=
  E.op (fun a ha => by simp [execOp, ha.ev hx, Op.unary]) hd h
theorem E.neg {x : Operand} {t : TypeId} {k : IntKind} {a c : Int} (hx : ev env x = some (.int k a)) (hr : k.wrap (0 - a) = c) (hd : Nat.blt d s.n = true) (h : wpE P ops Q s rest ((d, .int k c) :: env) w) : wpE P ops Q s (⟨some d, .unOp .neg t x, ty, pos, aft, none⟩ :: rest) env w :=
  E.op (fun a' ha => by simp [execOp, ha.ev hx, unary_neg, Op.intArith] at hr ⊢; exact hr) hd h
theorem E.flip {x : Operand} {t : TypeId} {k : IntKind} {a c : Int} (hx : ev env x = some (.int k a)) (hr : bits .xor k (if k.signed then -1 else k.max) a = c) (hd : Nat.blt d s.n = true) (h : wpE P ops Q s rest ((d, .int k c) :: env) w) : wpE P ops Q s (⟨some d, .unOp .xor t x, ty, pos, aft, none⟩ :: rest) env w :=
  E.op (fun a' ha => by
    have : (Op.unary .xor (.int k a)).run P w = .ok (.int k c) w := by rw [unary_xor, ← hr]; rfl
    simp [execOp, ha.ev hx, this]) hd h
theorem E.eqb {t t2 : TypeId} {x y : Operand} {a b : Bool} (hx : ev env x = some (.bool a)) (hy : ev env y = some (.bool b)) (ht : P.underlying t = some .bool)
    (hd : Nat.blt d s.n = true) (h : wpE P ops Q s rest ((d, .bool (a == b)) :: env) w) : wpE P ops Q s (⟨some d, .binOp .eql t x y t2, ty, pos, aft, none⟩ :: rest) env w :=
  E.op (fun a' ha => by
    have h1 := run_eql_bool (P := P) w t a b ht
    simp [execOp, ha.ev hx, ha.ev hy, eqGuard, h1]) hd h
theorem E.neb {t t2 : TypeId} {x y : Operand} {a b : Bool} (hx : ev env x = some (.bool a)) (hy : ev env y = some (.bool b)) (ht : P.underlying t = some .bool)
    (hd : Nat.blt d s.n = true) (h : wpE P ops Q s rest ((d, .bool (!(a == b))) :: env) w) : wpE P ops Q s (⟨some d, .binOp .neq t x y t2, ty, pos, aft, none⟩ :: rest) env w :=
  E.op (fun a' ha => by
    have h1 := run_equal_bool (P := P) w t a b ht
    have h2 : (binOp .neq t (.bool a) (.bool b)).run P w = .ok (.bool (!(a == b))) w := by simp only [binOp]; simp [h1]
    simp only [execOp, ha.ev hx, ha.ev hy, eqGuard]
    simp [h2]) hd h
theorem E.ext {x : Operand} {i : Nat} {vs : List Value} {v : Value} (hx : ev env x = some (.tuple vs.toArray)) (hv : vs[i]? = some v) (hd : Nat.blt d s.n = true) (h : wpE P ops Q s rest ((d, v) :: env) w) : wpE P ops Q s (⟨some d, .extract x i, ty, pos, aft, none⟩ :: rest) env w :=
  E.op (fun a ha => by simp [execOp, ha.ev hx, Instr.extract, hv]) hd h
theorem E.min2 {ats : Array TypeId} {x y : Operand} {k : IntKind} {a b : Int} (hx : ev env x = some (.int k a)) (hy : ev env y = some (.int k b)) 
    (hd : Nat.blt d s.n = true) (h : wpE P ops Q s rest ((d, .int k (min a b)) :: env) w) : wpE P ops Q s (⟨some d, .call ⟨.builtin .min, #[x, y], ats⟩, ty, pos, aft, none⟩ :: rest) env w :=
  E.op (fun a' ha => by
    have e : (if b < a then b else a) = min a b := by rw [Int.min_def]; split <;> split <;> omega
    simp [execOp, resolve, invoke, builtin, Builtin.min_, Builtin.min2, ha.ev hx, ha.ev hy, e]) hd h
theorem E.max2 {ats : Array TypeId} {x y : Operand} {k : IntKind} {a b : Int} (hx : ev env x = some (.int k a)) (hy : ev env y = some (.int k b)) 
    (hd : Nat.blt d s.n = true) (h : wpE P ops Q s rest ((d, .int k (max a b)) :: env) w) : wpE P ops Q s (⟨some d, .call ⟨.builtin .max, #[x, y], ats⟩, ty, pos, aft, none⟩ :: rest) env w :=
  E.op (fun a' ha => by
    have e : (if b > a then b else a) = max a b := by rw [Int.max_def]; split <;> split <;> omega
    simp [execOp, resolve, invoke, builtin, Builtin.max_, Builtin.max2, ha.ev hx, ha.ev hy, e]) hd h
end
end Go.Proofs.Ytdcgmkoonanpgaa.Sym
