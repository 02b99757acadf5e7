/- Texts of the claim, laid together: SymU, SymV, SymW, SymX, FdT. -/
import Derived.DeepKeys
import Derived.Laws.StructEq
import Derived.Defers
import Derived.Laws.IdiomStrings
import Derived.Conc.MuLone
import Derived.Test.Ytbinlkobmlebpaax3
set_option linter.unusedSimpArgs false
set_option linter.unusedVariables false
namespace Go.Proofs.Ytbinlkobmlebpaa.Sym
open Go.RowKit
theorem M.bsub {w0 w : World} {S : Nat → Prop} {rs : List Rg} {b off n : Nat} {T : TypeId} {cs : List Value} (h : M w0 S w rs) (i : Nat) (hi : rs[i]? = some (Rg.blk b T cs)) : At w b off ((cs.drop off).take n) := fun j u hu => by
 rw [List.getElem?_take] at hu
 split at hu
 · rw [List.getElem?_drop] at hu; exact h.bcell i hi hu
 · cases hu
section
variable {P : Program} {ops : Array Oper} {Q : Exit → Act → World → Prop} {Qn Lq : Act → Prop} {s : St} {env : Env} {w0 w : World} {S : Nat → Prop} {rs : List Rg} {rest : List Oper}
variable {d : Nat} {ty : TypeId} {pos : String} {aft : Array Edge}
def EqT (P : Program) (t : TypeId) (n : Nat) : Prop := P.eqGuardType P.depth t = false ∧ ∀ (w : World) (xs ys : List Int), xs.length = n → ys.length = n → ∃ r : Bool, (Op.equal t (.agg (xs.map i64).toArray) (.agg (ys.map i64).toArray)).run P w = .ok r w ∧ (r = true ↔ xs = ys)
theorem eqI {P : Program} {t : TypeId} (d : Nat) (w : World) (a b : Int) (h : P.underlying t = some (.int .i64)) : (Op.equalIn (d + 1) t (i64 a) (i64 b)).run P w = .ok (decide (a = b)) w := by
 rw [run_equalIn_int w d t .i64 .i64 a b h]
 congr 1
theorem eqF_nil {P : Program} (d : Nat) (w : World) (xs ys : Array Value) : (Op.eqFields d xs ys []).run P w = .ok (decide True) w := rfl
theorem eqF_cons {P : Program} {d : Nat} {w : World} {xs ys : Array Value} {f : Field} {fs : List Field} {a b : Value} {p q : Prop} [Decidable p] [Decidable q] (hn : (f.name != "_") = true) (ha : (part f.type xs f.offset).run P w = .ok a w) (hb : (part f.type ys f.offset).run P w = .ok b w)
  (he : (Op.equalIn d f.type a b).run P w = .ok (decide p) w) (hr : (Op.eqFields d xs ys fs).run P w = .ok (decide q) w) : (Op.eqFields d xs ys (f :: fs)).run P w = .ok (decide (p ∧ q)) w := by
 have hn' : f.name ≠ "_" := by simpa using hn
 simp only [Op.eqFields, if_pos hn']
 rw [Sem.run_bind, ha]
 simp only [Result.andThen_ok]
 rw [Sem.run_bind, hb]
 simp only [Result.andThen_ok]
 rw [Sem.run_bind, he]
 simp only [Result.andThen_ok]
 by_cases hp : p
 · simp only [hp, decide_true, Bool.not_true, Bool.false_eq_true, if_false, true_and]; exact hr
 · simp [hp]
theorem eqS {P : Program} {t : TypeId} {fs : List Field} {d : Nat} {xs ys : Array Value} {w : World} {p : Prop} [Decidable p] (ht : P.underlying t = some (.struct fs.toArray)) (hp : P.stoodInHeld t = false) (h : (Op.eqFields d xs ys fs).run P w = .ok (decide p) w) : (Op.equalIn (d + 1) t (.agg xs) (.agg ys)).run P w = .ok (decide p) w := by
 have e : P.fieldsOf t = fs.toArray := by simp [Program.fieldsOf, ht]
 rw [run_equalIn_struct w d t xs ys (by rw [e]; exact ht) hp, e]
 simpa using h
theorem run_eqA {t : TypeId} {n : Nat} (x y : Operand) (hE : EqT P t n) (xs ys : List Int) (h1 : xs.length = n) (h2 : ys.length = n) (op : BinOp) (ho : op = .eql ∨ op = .neq) : ∃ r : Bool, (r = true ↔ xs = ys) ∧ ∀ w : World,
    (do eqGuard op t x y (.agg (xs.map i64).toArray) (.agg (ys.map i64).toArray); binOp op t (.agg (xs.map i64).toArray) (.agg (ys.map i64).toArray) : Sem Value).run P w = .ok (.bool (if op = .eql then r else !r)) w := by
  refine ⟨decide (xs = ys), by simp, fun w => ?_⟩
  obtain ⟨r, hr, hi⟩ := hE.2 w xs ys h1 h2
  have e : r = decide (xs = ys) := by rw [Bool.eq_iff_iff]; simpa using hi
  subst e
  have hr' : (Op.equalIn 10000 t (.agg (xs.map i64).toArray) (.agg (ys.map i64).toArray)).run P w = .ok (decide (xs = ys)) w := hr
  rw [Sem.run_bind, run_eqGuard_agg w op t x y _ _ hE.1]
  rcases ho with rfl | rfl
  · simp only [Result.andThen_ok]
    rw [run_eql_struct, hr']; rfl
  · simp only [Result.andThen_ok]
    rw [run_neq_struct, hr']; rfl
theorem E.eqA {t t2 : TypeId} {n : Nat} {x y : Operand} (xs ys : List Int) (hE : EqT P t n) (hx : ev env x = some (.agg (xs.map i64).toArray)) (hy : ev env y = some (.agg (ys.map i64).toArray)) (h1 : xs.length = n) (h2 : ys.length = n) (hd : Nat.blt d s.n = true)
  (h : wpE P ops Q s rest ((d, .bool (decide (xs = ys))) :: env) w) : wpE P ops Q s (⟨some d, .binOp .eql t x y t2, ty, pos, aft, none⟩ :: rest) env w := by
 obtain ⟨r, hi, hr⟩ := run_eqA x y hE xs ys h1 h2 .eql (.inl rfl)
 have e : r = decide (xs = ys) := by rw [Bool.eq_iff_iff]; simpa using hi
 subst e
 exact E.op (fun a ha => by
  have := hr w
  simp only [execOp, ha.ev hx, ha.ev hy]
  rw [Sem.run_bind, this]; rfl) hd h
theorem Q.neA {t t2 : TypeId} {n : Nat} {x y : Operand} (xs ys : List Int) (hE : EqT P t n) (hx : ev env x = some (.agg (xs.map i64).toArray)) (hy : ev env y = some (.agg (ys.map i64).toArray)) (h1 : xs.length = n) (h2 : ys.length = n) (hd : Nat.blt d s.n = true)
  (h : wpQ P ops w Qn s rest ((d, .bool (decide (xs ≠ ys))) :: env)) : wpQ P ops w Qn s (⟨some d, .binOp .neq t x y t2, ty, pos, aft, none⟩ :: rest) env := by
 obtain ⟨r, hi, hr⟩ := run_eqA x y hE xs ys h1 h2 .neq (.inr rfl)
 have e : (!r) = decide (xs ≠ ys) := by
  rw [Bool.eq_iff_iff]
  by_cases hxy : xs = ys <;> cases r <;> simp_all
 exact Q.op (fun w' _ a ha => by
  have := hr w'
  simp only [reduceCtorEq, if_false] at this
  rw [e] at this
  simp only [execOp, ha.ev hx, ha.ev hy]
  rw [Sem.run_bind, this]; rfl) hd h
theorem E.addN {t t2 : TypeId} {x y : Operand} {a b : Nat} (hx : ev env x = some (.int .i64 (a : Int))) (hy : ev env y = some (.int .i64 (b : Int))) (hr : a + b ≤ 9223372036854775807) (hd : Nat.blt d s.n = true) (h : wpE P ops Q s rest ((d, .int .i64 ((a + b : Nat) : Int)) :: env) w) : wpE P ops Q s (⟨some d, .binOp .add t x y t2, ty, pos, aft, none⟩ :: rest) env w :=
 E.add hx hy (by rw [← Int.natCast_add]; omega) hd (by rw [Int.natCast_add] at h; exact h)
theorem E.mulN {t t2 : TypeId} {x y : Operand} {a b : Nat} (hx : ev env x = some (.int .i64 (a : Int))) (hy : ev env y = some (.int .i64 (b : Int))) (hr : a * b ≤ 9223372036854775807) (hd : Nat.blt d s.n = true) (h : wpE P ops Q s rest ((d, .int .i64 ((a * b : Nat) : Int)) :: env) w) : wpE P ops Q s (⟨some d, .binOp .mul t x y t2, ty, pos, aft, none⟩ :: rest) env w :=
 E.mul hx hy (by rw [← Int.natCast_mul]; omega) hd (by rw [Int.natCast_mul] at h; exact h)
theorem E.subN {t t2 : TypeId} {x y : Operand} {a b : Nat} (hx : ev env x = some (.int .i64 (a : Int))) (hy : ev env y = some (.int .i64 (b : Int))) (hr : b ≤ a ∧ a ≤ 9223372036854775807) (hd : Nat.blt d s.n = true) (h : wpE P ops Q s rest ((d, .int .i64 ((a - b : Nat) : Int)) :: env) w) : wpE P ops Q s (⟨some d, .binOp .sub t x y t2, ty, pos, aft, none⟩ :: rest) env w :=
 E.sub' hx hy (by omega) hd (by rw [show ((a - b : Nat) : Int) = (a : Int) - (b : Int) by omega] at h; exact h)
theorem S.addN {t t2 : TypeId} {x y : Operand} {a b : Nat} (hx : ev env x = some (.int .i64 (a : Int))) (hy : ev env y = some (.int .i64 (b : Int))) (hr : a + b ≤ 9223372036854775807) (hd : Nat.blt d s.n = true) (h : wpS P ops Lq s rest ((d, .int .i64 ((a + b : Nat) : Int)) :: env) w) : wpS P ops Lq s (⟨some d, .binOp .add t x y t2, ty, pos, aft, none⟩ :: rest) env w :=
 S.add hx hy (by rw [← Int.natCast_add]; omega) hd (by rw [Int.natCast_add] at h; exact h)
theorem S.mulN {t t2 : TypeId} {x y : Operand} {a b : Nat} (hx : ev env x = some (.int .i64 (a : Int))) (hy : ev env y = some (.int .i64 (b : Int))) (hr : a * b ≤ 9223372036854775807) (hd : Nat.blt d s.n = true) (h : wpS P ops Lq s rest ((d, .int .i64 ((a * b : Nat) : Int)) :: env) w) : wpS P ops Lq s (⟨some d, .binOp .mul t x y t2, ty, pos, aft, none⟩ :: rest) env w :=
 S.mul hx hy (by rw [← Int.natCast_mul]; omega) hd (by rw [Int.natCast_mul] at h; exact h)
theorem S.subN {t t2 : TypeId} {x y : Operand} {a b : Nat} (hx : ev env x = some (.int .i64 (a : Int))) (hy : ev env y = some (.int .i64 (b : Int))) (hr : b ≤ a ∧ a ≤ 9223372036854775807) (hd : Nat.blt d s.n = true) (h : wpS P ops Lq s rest ((d, .int .i64 ((a - b : Nat) : Int)) :: env) w) : wpS P ops Lq s (⟨some d, .binOp .sub t x y t2, ty, pos, aft, none⟩ :: rest) env w :=
 S.sub' hx hy (by omega) hd (by rw [show ((a - b : Nat) : Int) = (a : Int) - (b : Int) by omega] at h; exact h)
theorem Q.addN {t t2 : TypeId} {x y : Operand} {a b : Nat} (hx : ev env x = some (.int .i64 (a : Int))) (hy : ev env y = some (.int .i64 (b : Int))) (hr : a + b ≤ 9223372036854775807) (hd : Nat.blt d s.n = true) (h : wpQ P ops w Qn s rest ((d, .int .i64 ((a + b : Nat) : Int)) :: env)) : wpQ P ops w Qn s (⟨some d, .binOp .add t x y t2, ty, pos, aft, none⟩ :: rest) env :=
 Q.add hx hy (by rw [← Int.natCast_add]; omega) hd (by rw [Int.natCast_add] at h; exact h)
theorem Q.mulN {t t2 : TypeId} {x y : Operand} {a b : Nat} (hx : ev env x = some (.int .i64 (a : Int))) (hy : ev env y = some (.int .i64 (b : Int))) (hr : a * b ≤ 9223372036854775807) (hd : Nat.blt d s.n = true) (h : wpQ P ops w Qn s rest ((d, .int .i64 ((a * b : Nat) : Int)) :: env)) : wpQ P ops w Qn s (⟨some d, .binOp .mul t x y t2, ty, pos, aft, none⟩ :: rest) env :=
 Q.mul hx hy (by rw [← Int.natCast_mul]; omega) hd (by rw [Int.natCast_mul] at h; exact h)
theorem Q.subN {t t2 : TypeId} {x y : Operand} {a b : Nat} (hx : ev env x = some (.int .i64 (a : Int))) (hy : ev env y = some (.int .i64 (b : Int))) (hr : b ≤ a ∧ a ≤ 9223372036854775807) (hd : Nat.blt d s.n = true) (h : wpQ P ops w Qn s rest ((d, .int .i64 ((a - b : Nat) : Int)) :: env)) : wpQ P ops w Qn s (⟨some d, .binOp .sub t x y t2, ty, pos, aft, none⟩ :: rest) env :=
 Q.sub' hx hy (by omega) hd (by rw [show ((a - b : Nat) : Int) = (a : Int) - (b : Int) by omega] at h; exact h)
theorem Y.addN {t t2 : TypeId} {x y : Operand} {a b : Nat} (hx : ev env x = some (.int .i64 (a : Int))) (hy : ev env y = some (.int .i64 (b : Int))) (hr : a + b ≤ 9223372036854775807) : Yld P ops s env w ⟨some d, .binOp .add t x y t2, ty, pos, aft, none⟩ (.int .i64 ((a + b : Nat) : Int)) := by
 rw [Int.natCast_add]
 exact Y.add hx hy (by rw [← Int.natCast_add]; omega)
theorem Y.subN {t t2 : TypeId} {x y : Operand} {a b : Nat} (hx : ev env x = some (.int .i64 (a : Int))) (hy : ev env y = some (.int .i64 (b : Int))) (hr : b ≤ a ∧ a ≤ 9223372036854775807) : Yld P ops s env w ⟨some d, .binOp .sub t x y t2, ty, pos, aft, none⟩ (.int .i64 ((a - b : Nat) : Int)) := by
 rw [show ((a - b : Nat) : Int) = (a : Int) - (b : Int) by omega]
 exact Y.sub' hx hy (by omega)
end
end Go.Proofs.Ytbinlkobmlebpaa.Sym
namespace Go.Proofs.Ytbinlkobmlebpaa.Sym
open Go.RowKit
theorem look_val {env : Env} {d : Nat} {k : IntKind} {x y : Int} (h : look env d = some (.int k x)) (e : x = y) : look env d = some (.int k y) := by rw [h, e]
theorem look_eq {env : Env} {d : Nat} {x y : Value} (h : look env d = some x) (e : x = y) : look env d = some y := by rw [h, e]
section
variable {P : Program} {ops : Array Oper} {Q : Exit → Act → World → Prop} {Qn Lq : Act → Prop} {s : St} {env : Env} {w0 w : World} {S : Nat → Prop} {rs : List Rg} {rest : List Oper}
variable {d : Nat} {ty : TypeId} {pos : String} {aft : Array Edge}
end
end Go.Proofs.Ytbinlkobmlebpaa.Sym
namespace Go.Proofs.Ytbinlkobmlebpaa.Sym
open Go.RowKit Go.Conc.Locks Go.MuLone
section
variable {P : Program} {ops : Array Oper} {Q : Exit → Act → World → Prop} {Qn Lq : Act → Prop} {s : St} {env : Env} {w0 w w' : World} {S : Nat → Prop} {rs : List Rg} {rest : List Oper}
variable {d : Nat} {ty : TypeId} {pos : String} {aft : Array Edge}
end
section
variable {w0 w w' : World} {S : Nat → Prop} {rs : List Rg} {r q p : Rg}
def Rg.emp : Rg := ⟨fun _ => False, fun _ => True, fun _ h => h, fun _ _ h => h.elim⟩
theorem M.join (h : M w0 S w rs) (i j : Nat) (hne : i ≠ j) (hi : rs[i]? = some r) (hj : rs[j]? = some q) (hp : p.ok w) (hf : ∀ k, p.fp k → r.fp k ∨ q.fp k) : M w0 S w ((rs.set j Rg.emp).set i p) := by
  have hli : i < rs.length := (List.getElem?_eq_some_iff.1 hi).1
  have hlj : j < rs.length := (List.getElem?_eq_some_iff.1 hj).1
  have at_ : ∀ a x, ((rs.set j Rg.emp).set i p)[a]? = some x → (a = i ∧ x = p) ∨ (a = j ∧ x = Rg.emp) ∨ (a ≠ i ∧ a ≠ j ∧ rs[a]? = some x) := fun a x hx => by
    by_cases e : i = a
    · subst e; rw [List.getElem?_set_self (by simpa using hli)] at hx; exact .inl ⟨rfl, (Option.some.inj hx).symm⟩
    · rw [List.getElem?_set_ne e] at hx
      by_cases e2 : j = a
      · subst e2; rw [List.getElem?_set_self hlj] at hx; exact .inr (.inl ⟨rfl, (Option.some.inj hx).symm⟩)
      · rw [List.getElem?_set_ne e2] at hx; exact .inr (.inr ⟨fun h => e h.symm, fun h => e2 h.symm, hx⟩)
  refine ⟨⟨fun a x hx => ?_, fun a b x y ha hb hab k hk hk' => ?_⟩, fun a x hx k hk => ?_, h.fr⟩
  · rcases at_ a x hx with ⟨_, rfl⟩ | ⟨_, rfl⟩ | ⟨_, _, hx⟩
    · exact hp
    · trivial
    · exact h.ok hx
  · rcases at_ a x ha with ⟨ea, ex⟩ | ⟨ea, ex⟩ | ⟨na, na', ha⟩
    · rcases at_ b y hb with ⟨eb, ey⟩ | ⟨eb, ey⟩ | ⟨nb, nb', hb⟩
      · exact hab (ea.trans eb.symm)
      · rw [ey] at hk'; exact hk'
      · rw [ex] at hk
        rcases hf k hk with h1 | h1
        · exact h.sep.apart i b r y hi hb (fun e => nb e.symm) k h1 hk'
        · exact h.sep.apart j b q y hj hb (fun e => nb' e.symm) k h1 hk'
    · rw [ex] at hk; exact hk
    · rcases at_ b y hb with ⟨eb, ey⟩ | ⟨eb, ey⟩ | ⟨nb, nb', hb⟩
      · rw [ey] at hk'
        rcases hf k hk' with h1 | h1
        · exact h.sep.apart a i x r ha hi na k hk h1
        · exact h.sep.apart a j x q ha hj na' k hk h1
      · rw [ey] at hk'; exact hk'
      · exact h.sep.apart a b x y ha hb hab k hk hk'
  · rcases at_ a x hx with ⟨_, e⟩ | ⟨_, e⟩ | ⟨_, _, hx⟩
    · rw [e] at hk
      rcases hf k hk with h1 | h1
      · exact h.mine i r hi k h1
      · exact h.mine j q hj k h1
    · rw [e] at hk; exact hk.elim
    · exact h.mine a x hx k hk
theorem M.calls {outs : List Rg} (h : M w0 S w rs) (is : List Nat) (hn : is.Nodup) (hlen : is.length = (is.filterMap (rs[·]?)).length) (hl : is.length ≤ outs.length) (k : M w (fpU (is.filterMap (rs[·]?))) w' outs) : M w0 S w' (repl rs is outs) := h.callM is hn rfl hlen hl k
end
abbrev Hd := Option Addr × Nat × Nat
abbrev slv (x : Hd) : Value := .slice x.1 x.2.1 x.2.2
def Bag (w : World) (hs : List Hd) (ls : List (List UInt8)) : Prop := hs.length = ls.length ∧ ∀ (i : Nat) h l, hs[i]? = some h → ls[i]? = some l → RdL u8 w (slv h) l
theorem Bag.at {w : World} {hs : List Hd} {ls : List (List UInt8)} (h : Bag w hs ls) {i : Nat} (hi : i < ls.length) : RdL u8 w (slv (hs[i]'(by rw [h.1]; exact hi))) ls[i] := h.2 i _ _ (List.getElem?_eq_getElem _) (List.getElem?_eq_getElem _)
section
variable {w0 w w' : World} {S : Nat → Prop} {rs : List Rg}
end
def partV (v : Value) (a b : Nat) : Value := match v with
 | .slice c _ cap => .slice (if cap = a then c else c.map (·.add (a * 1))) (b - a) (cap - a)
 | v => v
theorem Rd.partP {w : World} {v : Value} {sz n : Nat} {cs : List Value} {a b : Nat} (h : Rd w sz v n cs) (h1 : a ≤ b) (h2 : b ≤ n) : Part 1 v (partV v a b) a b := by
 obtain ⟨c, cap, hv, _⟩ := h
 subst hv
 exact ⟨c, n, cap, rfl, h1, h2, rfl⟩
theorem RdL.partV {α : Type} {enc : α → Value} {w : World} {v : Value} {l : List α} {a b : Nat} (h : RdL enc w v l) (h1 : a ≤ b) (h2 : b ≤ l.length) : RdL enc w (partV v a b) (cutL a b l) := h.part (Rd.partP h h1 h2)
section
variable {P : Program} {ops : Array Oper} {Q : Exit → Act → World → Prop} {Qn Lq : Act → Prop} {s : St} {env : Env} {w0 w w' : World} {S : Nat → Prop} {rs : List Rg} {rest : List Oper}
variable {d : Nat} {ty : TypeId} {pos : String} {aft : Array Edge}
theorem run_slcP {α : Type} {enc : α → Value} {l : List α} {t e : TypeId} {x : Operand} {lo hi : Option Operand} {v : Value} {k k' : IntKind} (a b : Nat) (hx : ev env x = some v)
    (hlo : lo.map (ev env) = some (some (.int k (a : Int))) ∨ (lo = none ∧ a = 0)) (hhi : hi.map (ev env) = some (some (.int k' (b : Int))) ∨ (hi = none ∧ b = l.length)) (hR : RdL enc w v l)
    (ht : P.underlying t = some (.slice e)) (hs : (P.info? e).map (·.size) = some 1) (hl : a ≤ b) (hh : b ≤ l.length) (a' : Act) (ha : Sat s a' env) (dst : Option Nat) : (execOp a'.eval ⟨dst, .slice t x lo hi none, ty, pos, aft, none⟩).run P w = .ok (.value (partV v a b)) w := by
  obtain ⟨c, cap, hv, hc, _⟩ := hR
  subst hv
  have h1 : lo.map a'.eval = some (.int k (a : Int)) ∨ (lo.map a'.eval = none ∧ a = 0) := by
    rcases hlo with hlo | ⟨rfl, h0⟩
    · cases lo with
      | none => simp at hlo
      | some y => simp at hlo; left; simp [ha.ev hlo]
    · right; exact ⟨rfl, h0⟩
  have h2 : hi.map a'.eval = some (.int k' (b : Int)) ∨ (hi.map a'.eval = none ∧ b = l.length) := by
    rcases hhi with hhi | ⟨rfl, h0⟩
    · cases hi with
      | none => simp at hhi
      | some y => simp at hhi; left; simp [ha.ev hhi]
    · right; exact ⟨rfl, h0⟩
  have := run_slice (P := P) (w := w) (a := c) ht hs h1 h2 hl hh hc
  simp [execOp, ha.ev hx, this, partV]
theorem E.slcP {α : Type} {enc : α → Value} {l : List α} {t e : TypeId} {x : Operand} {lo hi : Option Operand} {v : Value} {k k' : IntKind} (a b : Nat) (hx : ev env x = some v)
  (hlo : lo.map (ev env) = some (some (.int k (a : Int))) ∨ (lo = none ∧ a = 0)) (hhi : hi.map (ev env) = some (some (.int k' (b : Int))) ∨ (hi = none ∧ b = l.length)) (hR : RdL enc w v l)
  (ht : P.underlying t = some (.slice e)) (hs : (P.info? e).map (·.size) = some 1) (hl : a ≤ b) (hh : b ≤ l.length) (hd : Nat.blt d s.n = true)
  (h : wpE P ops Q s rest ((d, partV v a b) :: env) w) : wpE P ops Q s (⟨some d, .slice t x lo hi none, ty, pos, aft, none⟩ :: rest) env w :=
 E.op (fun a' ha => run_slcP a b hx hlo hhi hR ht hs hl hh a' ha _) hd h
end
end Go.Proofs.Ytbinlkobmlebpaa.Sym
namespace Go.Proofs.Ytbinlkobmlebpaa.Sym
open Go.RowKit
section
variable {P : Program} {ops : Array Oper} {Q : Exit → Act → World → Prop} {Qn : Act → Prop} {s : St} {env : Env} {w0 w : World} {S : Nat → Prop} {rs : List Rg} {rest : List Oper}
variable {d : Nat} {ty : TypeId} {pos : String} {aft : Array Edge}
theorem run_max3 {x y z : Operand} {a : Act} {k : IntKind} {i j l : Int} {ats : Array TypeId} (hx : a.eval x = .int k i) (hy : a.eval y = .int k j) (hz : a.eval z = .int k l) (w : World) :
  (execOp a.eval ⟨some d, .call ⟨.builtin .max, #[x, y, z], ats⟩, ty, pos, aft, none⟩).run P w = .ok (.value (.int k (max (max i j) l))) w := by
 have e : (if j > i then j else i) = max i j := by rw [Int.max_def]; split <;> split <;> omega
 have e2 : (if l > max i j then l else max i j) = max (max i j) l := by rw [Int.max_def (max i j)]; split <;> split <;> omega
 simp [execOp, resolve, invoke, builtin, Builtin.max_, Builtin.max2, hx, hy, hz]
 rw [e, e2]; omega
theorem run_min3 {x y z : Operand} {a : Act} {k : IntKind} {i j l : Int} {ats : Array TypeId} (hx : a.eval x = .int k i) (hy : a.eval y = .int k j) (hz : a.eval z = .int k l) (w : World) :
  (execOp a.eval ⟨some d, .call ⟨.builtin .min, #[x, y, z], ats⟩, ty, pos, aft, none⟩).run P w = .ok (.value (.int k (min (min i j) l))) w := by
 have e : (if j < i then j else i) = min i j := by rw [Int.min_def]; split <;> split <;> omega
 have e2 : (if l < min i j then l else min i j) = min (min i j) l := by rw [Int.min_def (min i j)]; split <;> split <;> omega
 simp [execOp, resolve, invoke, builtin, Builtin.min_, Builtin.min2, hx, hy, hz]
 rw [e, e2]; omega
theorem E.max3 {x y z : Operand} {k : IntKind} {i j l : Int} {ats : Array TypeId} (hx : ev env x = some (.int k i)) (hy : ev env y = some (.int k j)) (hz : ev env z = some (.int k l)) (hd : Nat.blt d s.n = true)
  (h : wpE P ops Q s rest ((d, .int k (max (max i j) l)) :: env) w) : wpE P ops Q s (⟨some d, .call ⟨.builtin .max, #[x, y, z], ats⟩, ty, pos, aft, none⟩ :: rest) env w :=
 E.op (fun _ ha => run_max3 (ha.ev hx) (ha.ev hy) (ha.ev hz) w) hd h
theorem E.min3 {x y z : Operand} {k : IntKind} {i j l : Int} {ats : Array TypeId} (hx : ev env x = some (.int k i)) (hy : ev env y = some (.int k j)) (hz : ev env z = some (.int k l)) (hd : Nat.blt d s.n = true)
  (h : wpE P ops Q s rest ((d, .int k (min (min i j) l)) :: env) w) : wpE P ops Q s (⟨some d, .call ⟨.builtin .min, #[x, y, z], ats⟩, ty, pos, aft, none⟩ :: rest) env w :=
 E.op (fun _ ha => run_min3 (ha.ev hx) (ha.ev hy) (ha.ev hz) w) hd h
theorem run_mkI {t : TypeId} {ds : TypeDesc} {v : Value} (ht : P.underlying t = some ds) (hn : (match ds with | .interface _ => true | _ => false) = false) (w : World) : (Instr.makeInterface t v).run P w = .ok (.iface t v) w := by
 unfold Instr.makeInterface
 rw [Sem.run_bind, run_underlying ht]
 cases ds <;> first | rfl | simp at hn
theorem E.mkI {t : TypeId} {x : Operand} {ds : TypeDesc} {v : Value} (hx : ev env x = some v) (ht : P.underlying t = some ds) (hn : (match ds with | .interface _ => true | _ => false) = false) (hd : Nat.blt d s.n = true)
  (h : wpE P ops Q s rest ((d, .iface t v) :: env) w) : wpE P ops Q s (⟨some d, .makeInterface t x, ty, pos, aft, none⟩ :: rest) env w :=
 E.op (fun a ha => by simp only [execOp, ha.ev hx]; rw [Sem.run_bind, run_mkI ht hn]; rfl) hd h
def Meth (P : Program) (t : TypeId) (v : Value) (name : String) (f : FuncId) : Prop := ∀ w : World, (method (P.types.size + Made.depth) t v name).run P w = .ok (f, v) w
theorem run_inv {t : TypeId} {v : Value} {name : String} {f : FuncId} (hm : Meth P t v name f) (hc : Callable P f) (xs : Array Value) (w : World) : (callMethod (.iface t v) name xs).run P w = .ok (.enter f (#[v] ++ xs)) w := by
 unfold callMethod
 simp only []
 rw [Sem.run_bind]
 show ((program : Sem Program).run P w).andThen _ = _
 show ((method (P.types.size + Made.depth) t v name >>= fun x => callFunc x.1 (#[x.2] ++ xs)) : Sem Next).run P w = _
 rw [Sem.run_bind, hm w]
 exact run_callable hc _ w
theorem run_invoke {x : Operand} {xs : List Operand} {vs : List Value} {ats : Array TypeId} {t : TypeId} {v : Value} {name : String} {f : FuncId} {dst : Option Nat} {a : Act} (ha : Sat s a env) (hx : ev env x = some (.iface t v)) (hxs : evl env xs = some vs) (hm : Meth P t v name f) (hc : Callable P f) (w : World) :
  (execOp a.eval ⟨dst, .call ⟨.invoke x name, xs.toArray, ats⟩, ty, pos, aft, none⟩).run P w = .ok (.enter f (v :: vs).toArray) w := by
 have h1 : (resolve a.eval ⟨.invoke x name, xs.toArray, ats⟩ ty).run P w = .ok ⟨.fn (.method name) #[], #[.iface t v] ++ vs.toArray⟩ w := by
  simp [resolve, ha.ev hx, ha.evl hxs]
 simp only [execOp]
 rw [Sem.run_bind, h1]
 show (Go.invoke (.fn (.method name) #[]) (#[.iface t v] ++ vs.toArray)).run P w = _
 have h2 : (#[Value.iface t v] ++ vs.toArray)[0]? = some (.iface t v) := by simp
 unfold Go.invoke
 simp only [h2]
 have h3 : (#[Value.iface t v] ++ vs.toArray).extract 1 (#[Value.iface t v] ++ vs.toArray).size = vs.toArray := by
  apply Array.ext' ; simp
 rw [h3, run_inv hm hc]
 simp
theorem E.inv {x : Operand} {xs : List Operand} {vs : List Value} {ats : Array TypeId} {t : TypeId} {v : Value} {name : String} {f : FuncId} {Φ : Value → World → Prop} (hx : ev env x = some (.iface t v)) (hxs : evl env xs = some vs) (hm : Meth P t v name f) (hd : Nat.blt d s.n = true) (hc : Ret P f (v :: vs).toArray w Φ)
  (h : ∀ u w', Φ u w' → wpE P ops Q s rest ((d, u) :: env) w') : wpE P ops Q s (⟨some d, .call ⟨.invoke x name, xs.toArray, ats⟩, ty, pos, aft, none⟩ :: rest) env w := fun a ha =>
 wpList_plain rfl fun K hK => by
  unfold Oper.wp
  rw [run_invoke ha hx hxs hm hc.1 w, Oper.upon_enter]
  refine Calls.mono hc.2 ?_
  rintro e w' ⟨u, rfl, hv⟩
  exact hK _ _ (h u w' hv _ (ha.put d u hd))
theorem run_asT {t xt T : TypeId} {ds : TypeDesc} {v : Value} (hT : P.underlying T = some ds) (hn : (match ds with | .interface _ => true | _ => false) = false) (he : t = T) (w : World) : (Instr.typeAssert (.iface t v) xt T true).run P w = .ok (.tuple #[v, .bool true]) w := by
 unfold Instr.typeAssert
 rw [Sem.run_bind, run_underlying hT]
 subst he
 cases ds <;> first | (simp; done) | simp at hn
theorem run_asF {t xt T : TypeId} {ds : TypeDesc} {v z : Value} (hT : P.underlying T = some ds) (hn : (match ds with | .interface _ => true | _ => false) = false) (he : t ≠ T) (hz : ∀ w : World, (zeroValue T).run P w = .ok z w) (w : World) : (Instr.typeAssert (.iface t v) xt T true).run P w = .ok (.tuple #[z, .bool false]) w := by
 unfold Instr.typeAssert
 rw [Sem.run_bind, run_underlying hT]
 cases ds <;> first | (simp [he, hz]; done) | simp at hn
theorem E.asT {xt T : TypeId} {x : Operand} {ds : TypeDesc} {v : Value} (hx : ev env x = some (.iface T v)) (hT : P.underlying T = some ds) (hn : (match ds with | .interface _ => true | _ => false) = false) (hd : Nat.blt d s.n = true)
  (h : wpE P ops Q s rest ((d, .tuple #[v, .bool true]) :: env) w) : wpE P ops Q s (⟨some d, .typeAssert x xt T true, ty, pos, aft, none⟩ :: rest) env w :=
 E.op (fun a ha => by simp only [execOp, ha.ev hx]; rw [Sem.run_bind, run_asT hT hn rfl]; rfl) hd h
theorem E.asF {t xt T : TypeId} {x : Operand} {ds : TypeDesc} {v z : Value} (hx : ev env x = some (.iface t v)) (hT : P.underlying T = some ds) (hn : (match ds with | .interface _ => true | _ => false) = false) (he : t ≠ T) (hz : ∀ w : World, (zeroValue T).run P w = .ok z w) (hd : Nat.blt d s.n = true)
  (h : wpE P ops Q s rest ((d, .tuple #[z, .bool false]) :: env) w) : wpE P ops Q s (⟨some d, .typeAssert x xt T true, ty, pos, aft, none⟩ :: rest) env w :=
 E.op (fun a ha => by simp only [execOp, ha.ev hx]; rw [Sem.run_bind, run_asF hT hn he hz]; rfl) hd h
theorem run_op1 {o : Oper} {k fuel : Nat} {listed : Array Bool} {S : World → Prop} (hk : ops[k]? = some o) {a : Act} (ha : Sat s a env) (h : wpE P ops (HQ P ops Q S fuel (listed.setIfInBounds k true)) s [o] env w) : wpOp P ops (NoPanic Q) k (fun a w => S w ∧ wpAnyH P .any ops (NoPanic Q) S fuel (listed.setIfInBounds k true) a w) a w := by
  have h1' := h a ha
  unfold wpList at h1'
  unfold wpOp
  simp only [hk]
  split
  · rename_i hw
    rw [if_pos hw] at h1'
    rcases h1' with h1' | ⟨h1', h2'⟩
    · exact .inl (upon_HQ h1')
    · exact .inr ⟨h1', let ⟨a, w, h⟩ := h2'; ⟨a, w, h⟩⟩
  · rename_i hw
    rw [if_neg hw] at h1'
    exact h1'
theorem H.three {S : World → Prop} {fuel : Nat} {listed : Array Bool} {oi oj ok : Oper} (i j k : Nat) (hi : ops[i]? = some oi) (hj : ops[j]? = some oj) (hk : ops[k]? = some ok) (hr : Region.ready .any ops listed = [i, j, k]) (h1 : wpE P ops (HQ P ops Q S fuel (listed.setIfInBounds i true)) s [oi] env w) (h2 : wpE P ops (HQ P ops Q S fuel (listed.setIfInBounds j true)) s [oj] env w) (h3 : wpE P ops (HQ P ops Q S fuel (listed.setIfInBounds k true)) s [ok] env w) : wpH P ops Q S s (fuel + 1) listed env w := fun a ha => by
 refine wpAnyH_all hr (by simp) fun m hm => ?_
 have hm' : m = i ∨ m = j ∨ m = k := by simpa using hm
 rcases hm' with rfl | rfl | rfl
 · exact run_op1 hi ha h1
 · exact run_op1 hj ha h2
 · exact run_op1 hk ha h3
end
theorem E.mkFF {α : Type} {enc : α → List Value} {sz : Nat} {P : Program} {ops : Array Oper} {Q : Exit → Act → World → Prop} {s : St} {env : Env} {w0 w : World} {S : Nat → Prop} {rs : List Rg} {rest : List Oper} {d : Nat} {ty : TypeId} {pos : String} {aft : Array Edge} {t e : TypeId} {n : Nat} {xs : List (Nat × Operand)} {vs : List (Nat × Value)} (l : List α) (hM : M w0 S w rs) (hx : evp env xs = some vs) (hb : ∀ w, (Instr.buildSlice t n vs.toArray).run P w = .ok (.slice (some ⟨w.heap.size, 0, none⟩) n n) (w.alloc (.cells (l.flatMap enc).toArray e))) (hn : l.length = n) (hs : n ≤ 1000000) (hsz : ∀ a ∈ l, (enc a).length = sz)
  (hd : Nat.blt d s.n = true) (h : ∀ v w', M w0 S w' (rs ++ [Rg.slF enc sz e v l]) → wpE P ops Q s rest ((d, v) :: env) w') : wpE P ops Q s (⟨some d, .buildSlice t n xs.toArray, ty, pos, aft, none⟩ :: rest) env w := by
 subst hn
 have hfl : (l.flatMap enc).length = l.length * sz := by
  clear hb h hs
  induction l with
  | nil => simp
  | cons a l ih => rw [List.flatMap_cons, List.length_append, hsz a (by simp), ih (fun b hb => hsz b (by simp [hb])), List.length_cons, Nat.add_mul, Nat.one_mul, Nat.add_comm]
 refine E.buildS hx hb hd (h _ _ (hM.new (Ext.new w _) (r := Rg.slF enc sz e _ l) ⟨hsz, hfl, .inr ⟨w.heap.size, l.length, (l.flatMap enc).toArray, rfl, Nat.zero_le _, heap_alloc_new w _, Nat.le_refl _, by unfold maxLen; omega, by simpa using hfl, by simp [List.take_of_length_le, hfl]⟩⟩ (fun k hk => by cases hk; exact Nat.le_refl _)))
theorem flat_splice {α : Type} {enc : α → List Value} {sz : Nat} {l : List α} {X : List Value} {k : Nat} {a' : α} (hl : ∀ a ∈ l, (enc a).length = sz) (hk : k < l.length) (ha : (enc a').length = sz) (hX : X.take (l.length * sz) = l.flatMap enc) :
    (X.take (k * sz) ++ enc a' ++ X.drop (k * sz + (enc a').length)).take (l.length * sz) = (l.set k a').flatMap enc ∧ k * sz + sz ≤ X.length := by
  have e1 : l = l.take k ++ l[k] :: l.drop (k + 1) := by rw [← List.drop_eq_getElem_cons hk, List.take_append_drop]
  obtain ⟨A, hA⟩ : ∃ A, A = l.take k := ⟨_, rfl⟩
  obtain ⟨C, hC⟩ : ∃ C, C = l.drop (k + 1) := ⟨_, rfl⟩
  obtain ⟨a, hae⟩ : ∃ a, a = l[k] := ⟨_, rfl⟩
  have hAl : A.length = k := by rw [hA, List.length_take]; omega
  have hCl : C.length = l.length - (k + 1) := by rw [hC, List.length_drop]
  have hla : (enc a).length = sz := by rw [hae]; exact hl _ (List.getElem_mem hk)
  have fl : ∀ m : List α, (∀ a ∈ m, (enc a).length = sz) → (m.flatMap enc).length = m.length * sz := fun m hm => by
    induction m with
    | nil => simp
    | cons b m ih => rw [List.flatMap_cons, List.length_append, hm b (by simp), ih (fun c hc => hm c (by simp [hc])), List.length_cons, Nat.add_mul, Nat.one_mul, Nat.add_comm]
  have hFA : (A.flatMap enc).length = k * sz := by rw [fl A (fun b hb => hl b (by rw [hA] at hb; exact List.mem_of_mem_take hb)), hAl]
  have hFC : (C.flatMap enc).length = (l.length - (k + 1)) * sz := by rw [fl C (fun b hb => hl b (by rw [hC] at hb; exact List.mem_of_mem_drop hb)), hCl]
  rw [← hA, ← hC, ← hae] at e1
  have e2 : l.set k a' = A ++ a' :: C := by
    rw [e1, List.set_append_right _ _ (by omega), hAl, Nat.sub_self]; rfl
  have e3 : l.flatMap enc = A.flatMap enc ++ (enc a ++ C.flatMap enc) := by rw [e1, List.flatMap_append, List.flatMap_cons]
  have e4 : X = A.flatMap enc ++ (enc a ++ (C.flatMap enc ++ X.drop (l.length * sz))) := by
    have := List.take_append_drop (l.length * sz) X
    rw [hX, e3, List.append_assoc, List.append_assoc] at this
    exact this.symm
  have hn : l.length * sz = k * sz + sz + (l.length - (k + 1)) * sz := by
    rw [← Nat.succ_mul, ← Nat.add_mul]; congr 1; omega
  obtain ⟨R, hR⟩ : ∃ R, R = X.drop (l.length * sz) := ⟨_, rfl⟩
  rw [← hR] at e4
  have t1 : X.take (k * sz) = A.flatMap enc := by rw [e4, ← hFA, List.take_left']; rfl
  have t2 : X.drop (k * sz + (enc a').length) = C.flatMap enc ++ R := by
    rw [e4, ha, ← List.drop_drop, ← hFA, List.drop_left' rfl, ← hla, List.drop_left' rfl]
  refine ⟨?_, ?_⟩
  · rw [t1, t2, e2, List.flatMap_append, List.flatMap_cons, ← List.append_assoc]
    rw [List.take_left' (by rw [List.length_append, List.length_append, hFA, hFC, ha]; omega), List.append_assoc]
  · have := congrArg List.length e4
    simp only [List.length_append, hFA, hla] at this; omega
theorem OwnF.setE {α : Type} {enc : α → List Value} {sz B : Nat} {w : World} {e : TypeId} {v : Value} {l : List α} (h : OwnF enc sz w B e v l) {k : Nat} (hk : k < l.length) (a' : α) (hl : (enc a').length = sz) : ∃ (g : Nat) (cur : Array Value), bs v = (g, 0) ∧ v.ownBlock = some g ∧ Blk w g e cur ∧ k * sz + (enc a').length ≤ cur.size ∧ OwnF enc sz (w.setRow g (splice cur (k * sz) (enc a'))) B e v (l.set k a') := by
  obtain ⟨h0, hn, hv⟩ := h
  rcases hv with ⟨_, h1⟩ | ⟨g, cap, cur, rfl, hB, hh, hc, hm, hs, ht⟩
  · omega
  · have hf := flat_splice (X := cur.toList) (a' := a') h0 hk hl ht
    have hcs : k * sz + (enc a').length ≤ cur.size := by rw [hl]; simpa using hf.2
    refine ⟨g, cur, rfl, rfl, hh, hcs, fun b hb => ?_, ?_, .inr ⟨g, cap, splice cur (k * sz) (enc a'), by rw [List.length_set], hB, setRow_heap w g cur _ e _ hh, by rw [List.length_set]; exact hc, hm, ?_, ?_⟩⟩
    · rcases List.mem_or_eq_of_mem_set hb with hb | rfl
      · exact h0 b hb
      · exact hl
    · have : ∀ m : List α, (∀ a ∈ m, (enc a).length = sz) → (m.flatMap enc).length = m.length * sz := fun m hm => by
        induction m with
        | nil => simp
        | cons b m ih => rw [List.flatMap_cons, List.length_append, hm b (by simp), ih (fun c hc => hm c (by simp [hc])), List.length_cons, Nat.add_mul, Nat.one_mul, Nat.add_comm]
      exact this _ (fun b hb => by
        rcases List.mem_or_eq_of_mem_set hb with hb | rfl
        · exact h0 b hb
        · exact hl)
    · rw [← hs]; unfold splice; simp; omega
    · rw [List.length_set]; unfold splice; simpa using hf.1
theorem E.storeEM {P : Program} {ops : Array Oper} {Q : Exit → Act → World → Prop} {s : St} {env : Env} {w0 w : World} {S : Nat → Prop} {rs : List Rg} {rest : List Oper} {ty : TypeId} {pos : String} {aft : Array Edge} {α : Type} {enc : α → List Value} {sz : Nat} {e t : TypeId} {x y : Operand} {v : Value} {l : List α} {k : Nat} {ad : Addr} (i : Nat) (a' : α) (hM : M w0 S w rs) (hi : rs[i]? = some (Rg.slF enc sz e v l)) (hx : ev env x = some (.pointer (some ad))) (hy : ev env y = some (.agg (enc a').toArray)) (hs : (P.info? t).map (·.size) = some sz) (hl : (enc a').length = sz) (h1 : ∀ u ∈ enc a', u.oneCell' = true)
  (had : ad = ⟨(bs v).1, (bs v).2 + k * sz, none⟩) (hk : k < l.length)
  (h : ∀ w', M w0 S w' (rs.set i (Rg.slF enc sz e v (l.set k a'))) → wpE P ops Q s rest env w') : wpE P ops Q s (⟨none, .store t x y, ty, pos, aft, none⟩ :: rest) env w := by
 subst had
 obtain ⟨g, cur, hb, ho, hblk, hfit, hO⟩ := OwnF.setE (hM.ownF i hi) hk a' hl
 rw [hb, Nat.zero_add] at hx
 exact E.storeA hx hy (by rw [hl]; exact hs) hblk hfit h1 (h _ (hM.growF i hi hO (by rw [ho]; exact ⟨rfl, rfl, rfl, by simp [World.setRow], fun i hi hne => by
   have : g ≠ i := fun e => hne (by rw [e])
   simp [World.setRow, Array.getElem?_modify, this]⟩) (.inl rfl)))
theorem Y.idxFW {P : Program} {ops : Array Oper} {s : St} {env : Env} {w : World} {d : Nat} {ty : TypeId} {pos : String} {aft : Array Edge} (w1 : World) {α : Type} {enc : α → List Value} {sz : Nat} {l : List α} {t e : TypeId} {x ix : Operand} {kd : IntKind} {i : Int} {v : Value} (k : Nat) (hx : ev env x = some v) (hi : ev env ix = some (.int kd i)) (hR : RdF enc sz w1 v l) (hk : i = (k : Int)) (h1 : k < l.length) (h0 : 0 < sz)
  (ht : P.underlying t = some (.slice e)) (hs : (P.info? e).map (·.size) = some sz) : Yld P ops s env w ⟨some d, .indexAddr t x ix, ty, pos, aft, none⟩ (.pointer (some ⟨(bs v).1, (bs v).2 + k * sz, none⟩)) := by
 subst hk
 obtain ⟨hR0, a, cap, rfl, hc1, hc2, hl, ha0, hat⟩ := hR
 obtain ⟨b, off, rfl⟩ := ha0 (by rw [hl]; exact Nat.mul_pos (by omega) h0)
 refine Yld.of fun a' ha => ?_
 cases hq : P.info? e with
 | none => simp [hq] at hs
 | some inf =>
  have hs' : inf.size = sz := by simpa [hq] using hs
  simp [execOp, ha.ev hx, ha.ev hi, Instr.indexAt, asIntOf, run_underlying ht, sizeOf, typeInfo, hq, hs', h1, addr_add, bs]
end Go.Proofs.Ytbinlkobmlebpaa.Sym
namespace Go.Proofs.Ytbinlkobmlebpaa
open Go.RowKit Sym
namespace Fi
abbrev nls : Value := .slice none 0 0
structure Mk where
 x : Int
 y : Int
 s : Int
 n : Int
deriving DecidableEq
def mkc (m : Mk) : List Value := [i64 m.x, i64 m.y, i64 m.s, i64 m.n]
abbrev mkv (m : Mk) : Value := .agg #[i64 m.x, i64 m.y, i64 m.s, i64 m.n]
def mok (m : Mk) : Prop := 0 ≤ m.x ∧ m.x ≤ 57344 ∧ 0 ≤ m.y ∧ m.y ≤ 57344 ∧ 1 ≤ m.s ∧ m.s ≤ 57344
instance (m : Mk) : Decidable (mok m) := by unfold mok; exact inferInstance
def dt (a b c d : Int) : Int := a * c + b * d
def tri (c r d : Mk) : Prop :=
 4 * max (max c.s r.s) d.s ≤ 5 * min (min c.s r.s) d.s ∧
 16 * max (dt (r.x - c.x) (r.y - c.y) (r.x - c.x) (r.y - c.y)) (dt (d.x - c.x) (d.y - c.y) (d.x - c.x) (d.y - c.y)) ≤ 25 * min (dt (r.x - c.x) (r.y - c.y) (r.x - c.x) (r.y - c.y)) (dt (d.x - c.x) (d.y - c.y) (d.x - c.x) (d.y - c.y)) ∧
 100 * c.s * c.s ≤ min (dt (r.x - c.x) (r.y - c.y) (r.x - c.x) (r.y - c.y)) (dt (d.x - c.x) (d.y - c.y) (d.x - c.x) (d.y - c.y)) ∧
 8 * max (dt (r.x - c.x) (r.y - c.y) (d.x - c.x) (d.y - c.y)) (-(dt (r.x - c.x) (r.y - c.y) (d.x - c.x) (d.y - c.y))) ≤ dt (r.x - c.x) (r.y - c.y) (r.x - c.x) (r.y - c.y) + dt (d.x - c.x) (d.y - c.y) (d.x - c.x) (d.y - c.y) ∧
 0 < (r.x - c.x) * (d.y - c.y) - (r.y - c.y) * (d.x - c.x)
instance (c r d : Mk) : Decidable (tri c r d) := by unfold tri; exact inferInstance
theorem mul_b {a b : Int} {A B : Nat} (h1 : -(A : Int) ≤ a ∧ a ≤ A) (h2 : -(B : Int) ≤ b ∧ b ≤ B) : -((A * B : Nat) : Int) ≤ a * b ∧ a * b ≤ ((A * B : Nat) : Int) := by
 have h : (a * b).natAbs ≤ A * B := by
  rw [Int.natAbs_mul]
  exact Nat.mul_le_mul (by omega) (by omega)
 omega
theorem dt_b {a b c d : Int} (h1 : -57344 ≤ a ∧ a ≤ 57344) (h2 : -57344 ≤ b ∧ b ≤ 57344) (h3 : -57344 ≤ c ∧ c ≤ 57344) (h4 : -57344 ≤ d ∧ d ≤ 57344) :
  -3288334336 ≤ a * c ∧ a * c ≤ 3288334336 ∧ -3288334336 ≤ b * d ∧ b * d ≤ 3288334336 ∧ -6576668672 ≤ dt a b c d ∧ dt a b c d ≤ 6576668672 := by
 have e1 := mul_b (A := 57344) (B := 57344) h1 h3
 have e2 := mul_b (A := 57344) (B := 57344) h2 h4
 unfold dt; omega
theorem dt_sq {a b : Int} : 0 ≤ dt a b a b := by
 have h1 : 0 ≤ a * a := by rcases Int.le_total 0 a with h | h; exact Int.mul_nonneg h h; exact Int.mul_nonneg_of_nonpos_of_nonpos h h
 have h2 : 0 ≤ b * b := by rcases Int.le_total 0 b with h | h; exact Int.mul_nonneg h h; exact Int.mul_nonneg_of_nonpos_of_nonpos h h
 unfold dt; omega
def okT (l : List Mk) (c r d : Nat) : Option (Nat × Nat × Nat) :=
 if c ≠ r ∧ c ≠ d ∧ r ≠ d ∧ tri (l.getD c ⟨0, 0, 0, 0⟩) (l.getD r ⟨0, 0, 0, 0⟩) (l.getD d ⟨0, 0, 0, 0⟩) then some (c, r, d) else none
def t1 (l : List Mk) (c r d : Nat) : List (Nat × Nat × Nat) := (List.range d).filterMap (okT l c r)
def t2 (l : List Mk) (c r d : Nat) : List (Nat × Nat × Nat) := (List.range r).flatMap (fun r => t1 l c r l.length) ++ t1 l c r d
def t3 (l : List Mk) (c r d : Nat) : List (Nat × Nat × Nat) := (List.range c).flatMap (fun c => t2 l c l.length 0) ++ t2 l c r d
theorem t1_zero (l : List Mk) (c r : Nat) : t1 l c r 0 = [] := rfl
theorem t3_d {l : List Mk} {c r d : Nat} {x : Nat × Nat × Nat} (h : okT l c r d = some x) : t3 l c r (d + 1) = t3 l c r d ++ [x] := by
 unfold t3 t2 t1
 rw [List.range_succ, List.filterMap_append]
 simp [h]
theorem t3_d0 {l : List Mk} {c r d : Nat} (h : okT l c r d = none) : t3 l c r (d + 1) = t3 l c r d := by
 unfold t3 t2 t1
 rw [List.range_succ, List.filterMap_append]
 simp [h]
theorem t3_r (l : List Mk) (c r : Nat) : t3 l c r l.length = t3 l c (r + 1) 0 := by
 unfold t3 t2
 rw [List.range_succ, List.flatMap_append, t1_zero]
 simp
theorem t3_c (l : List Mk) (c : Nat) : t3 l c l.length 0 = t3 l (c + 1) 0 0 := by
 unfold t3
 rw [List.range_succ, List.flatMap_append]
 simp [t2, t1_zero]
def trs (l : List Mk) : List (Nat × Nat × Nat) := t3 l l.length 0 0
theorem t3_len (l : List Mk) (c r d : Nat) : (t3 l c r d).length ≤ (c * l.length + r) * l.length + d := by
 have h1 : ∀ c r d, (t1 l c r d).length ≤ d := fun c r d => by
  have := List.length_filterMap_le (okT l c r) (List.range d); unfold t1; simpa using this
 have h2 : ∀ c r d, (t2 l c r d).length ≤ r * l.length + d := fun c r d => by
  unfold t2
  rw [List.length_append]
  have : ((List.range r).flatMap fun r => t1 l c r l.length).length ≤ r * l.length := by
   induction r with
   | zero => simp
   | succ r ih => rw [List.range_succ, List.flatMap_append, List.length_append, Nat.succ_mul]; have := h1 c r l.length; simp; simp at ih; omega
  have := h1 c r d; omega
 unfold t3
 rw [List.length_append]
 have : ((List.range c).flatMap fun c => t2 l c l.length 0).length ≤ c * l.length * l.length := by
  induction c with
  | zero => simp
  | succ c ih => rw [List.range_succ, List.flatMap_append, List.length_append, Nat.succ_mul, Nat.add_mul]; have := h2 c l.length 0; simp; simp at ih; omega
 have := h2 c r d
 rw [Nat.add_mul]; omega
def isR (n : Int) (r : Int) : Prop := 0 ≤ r ∧ r * r ≤ n ∧ n < (r + 1) * (r + 1)
theorem isR_one {n r q : Int} (h : isR n r) (k : isR n q) : r = q := by
  rcases Int.lt_trichotomy r q with e | e | e
  · have : (r + 1) * (r + 1) ≤ q * q := Int.mul_le_mul (by omega) (by omega) (by have := h.1; omega) (by have := k.1; omega)
    have := h.2.2; have := k.2.1; omega
  · exact e
  · have : (q + 1) * (q + 1) ≤ r * r := Int.mul_le_mul (by omega) (by omega) (by have := k.1; omega) (by have := h.1; omega)
    have := k.2.2; have := h.2.1; omega
theorem sq_le {a b : Int} (h0 : 0 ≤ a) (h : a ≤ b) : a * a ≤ b * b := Int.mul_le_mul h h h0 (by omega)
def dim (ru rv c r d : Int) : Int × Int :=
 let p := 3 * (ru + rv); let q := 2 * (c + r + d)
 if p < 12 * q ∨ 172 * q ≤ p then (0, 14) else (17 + 4 * ((p - 8 * q) / (4 * q)), 0)
end Fi
end Go.Proofs.Ytbinlkobmlebpaa
