/- Texts of the claim, laid together: SymH, Uf. -/
import Derived.OrdersHeld
import Derived.Deep.RegionHeld3
import Derived.Test.YtnnmebpahickhaaComponentsSymmetricTopMg2
/- The walk by named slots: regions that draw their order, with calls and stores among their operations. For whatever program. Written by a program of mine (mkh.py); the Y-lemmas from the E-lemmas. -/
namespace Go.Proofs.Ytnnmebpahickhaa.Sym
set_option linter.unusedSimpArgs false
set_option linter.unusedVariables false
open Go.RowKit

/-- an operation yields a value and leaves the world alone, or is not wanted -/
def Yld (P : Program) (ops : Array Oper) (s : St) (env : Env) (w : World) (o : Oper) (v : Value) : Prop := ∀ a, Sat s a env →
  (Region.wanted o (yielded ops a.tmps) = true ∧ (execOp a.eval o).run P w = .ok (.value v) w) ∨ (Region.wanted o (yielded ops a.tmps) = false ∧ v = undef)
/-- what is left of a region -/
def wpH (P : Program) (ops : Array Oper) (Q : Exit → Act → World → Prop) (S : World → Prop) (s : St) (fuel : Nat) (listed : Array Bool) (env : Env) (w : World) : Prop := ∀ a, Sat s a env → wpAnyH P .any ops (NoPanic Q) S fuel listed a w
def HQ (P : Program) (ops : Array Oper) (Q : Exit → Act → World → Prop) (S : World → Prop) (fuel : Nat) (listed : Array Bool) : Exit → Act → World → Prop
  | .normal, a, w => S w ∧ wpAnyH P .any ops (NoPanic Q) S fuel listed a w
  | e, a, w => NoPanic Q e a w
section
variable {P : Program} {ops : Array Oper} {Q : Exit → Act → World → Prop} {S : World → Prop} {s : St} {env : Env} {w : World} {rest : List Oper}
variable {d : Nat} {ty : TypeId} {pos : String} {aft : Array Edge} {fuel : Nat} {listed : Array Bool}

theorem Yld.of {op : Op} {v : Value} (h : ∀ a, Sat s a env → (execOp a.eval ⟨some d, op, ty, pos, aft, none⟩).run P w = .ok (.value v) w) : Yld P ops s env w ⟨some d, op, ty, pos, aft, none⟩ v := fun a ha => .inl ⟨by simp [Region.wanted], h a ha⟩
theorem Y.on {op : Op} {v : Value} {j sl : Nat} {b : Bool} (hs : (ops[j]?).bind (·.dst) = some sl) (hb : look env sl = some (.bool b)) (h : Yld P ops s env w ⟨some d, op, ty, pos, aft, none⟩ v) : Yld P ops s env w ⟨some d, op, ty, pos, aft, some (j, b)⟩ v := fun a ha => by
  have hy : yielded ops a.tmps j = some b := by simp [yielded, hs, ha.get sl _ hb]
  rcases h a ha with ⟨_, h⟩ | ⟨h, _⟩
  · exact .inl ⟨by simp [Region.wanted, hy], h⟩
  · simp [Region.wanted] at h
theorem Y.off {op : Op} {j sl : Nat} {b c : Bool} (hs : (ops[j]?).bind (·.dst) = some sl) (hb : look env sl = some (.bool c)) (hne : (c == b) = false) : Yld P ops s env w ⟨some d, op, ty, pos, aft, some (j, b)⟩ undef := fun a ha => by
  have hy : yielded ops a.tmps j = some c := by simp [yielded, hs, ha.get sl _ hb]
  refine .inr ⟨?_, rfl⟩
  have : (some c == some b) = false := by simpa using hne
  simp only [Region.wanted, hy, this]
theorem Y.offu {op : Op} {j sl : Nat} {b : Bool} (hs : (ops[j]?).bind (·.dst) = some sl) (hb : look env sl = some undef) : Yld P ops s env w ⟨some d, op, ty, pos, aft, some (j, b)⟩ undef := fun a ha => by
  have hy : yielded ops a.tmps j = none := by simp [yielded, hs, ha.get sl _ hb, undef]
  refine .inr ⟨?_, rfl⟩
  simp [Region.wanted, hy]
/-- the region begins: S holds behind the draw -/
theorem C.held {id : Nat} {l : List Oper} (S : World → Prop) (hm : P.follows .mixedOrders = true) (h : ∀ w', Ext w w' → w'.heap = w.heap → wpH P l.toArray Q S s l.length (Array.replicate l.length false) env w') : wpC P (.region id l.toArray true) Q s env w :=
  fun a ha => wp_region_noPanic (wp_region_held (S := S) hm (h _ (Ext.refl w).drew rfl a ha))
theorem H.take {o : Oper} {v : Value} (i : Nat) (hi : ops[i]? = some o) (hdst : o.dst = some d) (hs : Region.noSelect ops = true) (hf : Region.free .any ops listed i = true) (hr : (Region.ready .any ops listed).contains i = true)
    (hS : S w) (hy : ∀ w', S w' → Yld P ops s env w' o v) (hd : Nat.blt d s.n = true) (h : wpH P ops Q S s fuel (listed.setIfInBounds i true) ((d, v) :: env) w) : wpH P ops Q S s (fuel + 1) listed env w := fun a ha => by
  have hq : YieldsIf P ops S o v a := by
    rcases hy w hS a ha with ⟨h1, _⟩ | ⟨h1, h2⟩
    · refine .inl ⟨h1, fun w' hw' => ?_⟩
      rcases hy w' hw' a ha with ⟨_, h3⟩ | ⟨h3, _⟩
      · exact h3
      · rw [h1] at h3; cases h3
    · exact .inr ⟨h1, h2⟩
  exact wpAnyH_take hi hs hf hr (fun c a w h => h) hq hS (hdst ▸ h _ (ha.put d v hd))
theorem upon_HQ {o : Oper} {a : Act} {K : Act → World → Prop} {r : Result Next} (h : o.upon P a K (HQ P ops Q S fuel listed) r) : o.upon P a K (NoPanic Q) r := by
  have hl : LetsOut (HQ P ops Q S fuel listed) → LetsOut (NoPanic Q) := fun ⟨a, w, h⟩ => ⟨a, w, h⟩
  cases r with
  | ok n w' =>
    cases n <;> simp only [Oper.upon] at h ⊢ <;> first | exact h | exact Calls.mono h fun e w'' he => (by cases e <;> first | exact he | exact hl he)
  | halt x w' => cases x <;> simp only [Oper.upon] at h ⊢ <;> exact h
theorem H.only {o : Oper} (i : Nat) (hi : ops[i]? = some o) (hr : Region.ready .any ops listed = [i]) (h : wpE P ops (HQ P ops Q S fuel (listed.setIfInBounds i true)) s [o] env w) : wpH P ops Q S s (fuel + 1) listed env w := fun a ha => by
  refine wpAnyH_all hr (by simp) fun j hj => ?_
  obtain rfl : j = i := by simpa using hj
  have h1 := h a ha
  unfold wpList at h1
  unfold wpOp
  simp only [hi]
  split
  · rename_i hw
    rw [if_pos hw] at h1
    rcases h1 with h1 | ⟨h1, h2⟩
    · exact .inl (upon_HQ h1)
    · exact .inr ⟨h1, let ⟨a, w, h⟩ := h2; ⟨a, w, h⟩⟩
  · rename_i hw
    rw [if_neg hw] at h1
    exact h1
theorem H.back (hS : S w) (h : wpH P ops Q S s fuel listed env w) : wpE P ops (HQ P ops Q S fuel listed) s [] env w := fun a ha => ⟨hS, h a ha⟩
theorem H.done (hr : Region.ready .any ops listed = []) (h : wpX .normal Q s env w) : wpH P ops Q S s fuel listed env w := fun a ha => wpAnyH_done hr (NoPanic.normal (h a ha)) _
theorem Y.mv {x : Operand} {v : Value} (hx : ev env x = some v)   : Yld P ops s env w ⟨some d, .move x, ty, pos, aft, none⟩ (v) :=
  Yld.of (fun a ha => by simp [execOp, ha.ev hx])
theorem Y.asg {x : Operand} {v : Value} (hx : ev env x = some v)   : Yld P ops s env w ⟨some d, .assign x, ty, pos, aft, none⟩ (v) :=
  Yld.of (fun a ha => by simp [execOp, ha.ev hx])
theorem Y.pick {c x y : Operand} {b : Bool} {v : Value} (hc : ev env c = some (.bool b)) (hx : (bif b then ev env x else ev env y) = some v)   : Yld P ops s env w ⟨some d, .pick c x y, ty, pos, aft, none⟩ (v) :=
  Yld.of (fun a ha => by cases b <;> simp at hx <;> simp [execOp, ha.ev hc, ha.ev hx, asBool])
theorem Y.bin {op : BinOp} {t t2 : TypeId} {x y : Operand} {k : IntKind} {a b : Int} {v : Value} (hx : ev env x = some (.int k a)) (hy : ev env y = some (.int k b)) (hv : iop op k a b = some v)
      : Yld P ops s env w ⟨some d, .binOp op t x y t2, ty, pos, aft, none⟩ (v) :=
  Yld.of (fun a ha => by
    have := run_iop (P := P) t x y hv w
    simp only [execOp, ha.ev hx, ha.ev hy]
    rw [Sem.run_bind, this]; rfl)
theorem Y.quo {t t2 : TypeId} {x y : Operand} {k : IntKind} {a b c : Int} (hx : ev env x = some (.int k a)) (hy : ev env y = some (.int k b)) (hb : b ≠ 0) (hr : k.wrap (a.tdiv b) = c)
      : Yld P ops s env w ⟨some d, .binOp .quo t x y t2, ty, pos, aft, none⟩ (.int k c) :=
  Yld.of (fun a ha => by simp [execOp, ha.ev hx, ha.ev hy, eqGuard, binOp, Op.intDiv, hb, hr])
theorem Y.rem {t t2 : TypeId} {x y : Operand} {k : IntKind} {a b c : Int} (hx : ev env x = some (.int k a)) (hy : ev env y = some (.int k b)) (hb : b ≠ 0) (hr : a.tmod b = c)
      : Yld P ops s env w ⟨some d, .binOp .rem t x y t2, ty, pos, aft, none⟩ (.int k c) :=
  Yld.of (fun a ha => by simp [execOp, ha.ev hx, ha.ev hy, eqGuard, binOp, Op.intDiv, hb, hr])
theorem Y.shl {t t2 : TypeId} {x y : Operand} {k yk : IntKind} {a b c : Int} (hx : ev env x = some (.int k a)) (hy : ev env y = some (.int yk b)) (hb : 0 ≤ b) (hr : k.wrap (a * 2 ^ min b.toNat k.bits) = c)
      : Yld P ops s env w ⟨some d, .binOp .shl t x y t2, ty, pos, aft, none⟩ (.int k c) :=
  Yld.of (fun a ha => by
    have hb' : ¬ b < 0 := by omega
    simp [execOp, ha.ev hx, ha.ev hy, eqGuard, binOp, Op.shift, hb', hr])
theorem Y.shr {t t2 : TypeId} {x y : Operand} {k yk : IntKind} {a b c : Int} (hx : ev env x = some (.int k a)) (hy : ev env y = some (.int yk b)) (hb : 0 ≤ b) (hr : a / 2 ^ min b.toNat k.bits = c)
      : Yld P ops s env w ⟨some d, .binOp .shr t x y t2, ty, pos, aft, none⟩ (.int k c) :=
  Yld.of (fun a' ha => by
    have hs := shift_shr_any k yk a b hb
    simp [execOp, ha.ev hx, ha.ev hy, eqGuard, binOp, hs, hr])
theorem Y.conv {x : Operand} {src dst : TypeId} {ds : TypeDesc} {k0 k : IntKind} {a c : Int} (hx : ev env x = some (.int k0 a)) (hs : P.underlying src = some ds) (ht : P.underlying dst = some (.int k)) (hr : k.wrap a = c)
      : Yld P ops s env w ⟨some d, .convert src dst x, ty, pos, aft, none⟩ (.int k c) :=
  Yld.of (fun a ha => by simp [execOp, ha.ev hx, convert, run_underlying hs, run_underlying ht, Conv.intToInt, hr])
theorem Y.not {x : Operand} {t : TypeId} {b : Bool} (hx : ev env x = some (.bool b))   : Yld P ops s env w ⟨some d, .unOp .not t x, ty, pos, aft, none⟩ (.bool (!b)) :=
  Yld.of (fun a ha => by simp [execOp, ha.ev hx, Op.unary])
theorem Y.neg {x : Operand} {t : TypeId} {k : IntKind} {a c : Int} (hx : ev env x = some (.int k a)) (hr : k.wrap (0 - a) = c)   : Yld P ops s env w ⟨some d, .unOp .neg t x, ty, pos, aft, none⟩ (.int k c) :=
  Yld.of (fun a' ha => by simp [execOp, ha.ev hx, unary_neg, Op.intArith] at hr ⊢; exact hr)
theorem Y.flip {x : Operand} {t : TypeId} {k : IntKind} {a c : Int} (hx : ev env x = some (.int k a)) (hr : bits .xor k (if k.signed then -1 else k.max) a = c)   : Yld P ops s env w ⟨some d, .unOp .xor t x, ty, pos, aft, none⟩ (.int k c) :=
  Yld.of (fun a' ha => by
    have : (Op.unary .xor (.int k a)).run P w = .ok (.int k c) w := by rw [unary_xor, ← hr]; rfl
    simp [execOp, ha.ev hx, this])
theorem Y.eqb {t t2 : TypeId} {x y : Operand} {a b : Bool} (hx : ev env x = some (.bool a)) (hy : ev env y = some (.bool b)) (ht : P.underlying t = some .bool)
      : Yld P ops s env w ⟨some d, .binOp .eql t x y t2, ty, pos, aft, none⟩ (.bool (a == b)) :=
  Yld.of (fun a' ha => by
    have h1 := run_eql_bool (P := P) w t a b ht
    simp [execOp, ha.ev hx, ha.ev hy, eqGuard, h1])
theorem Y.neb {t t2 : TypeId} {x y : Operand} {a b : Bool} (hx : ev env x = some (.bool a)) (hy : ev env y = some (.bool b)) (ht : P.underlying t = some .bool)
      : Yld P ops s env w ⟨some d, .binOp .neq t x y t2, ty, pos, aft, none⟩ (.bool (!(a == b))) :=
  Yld.of (fun a' ha => by
    have h1 := run_equal_bool (P := P) w t a b ht
    have h2 : (binOp .neq t (.bool a) (.bool b)).run P w = .ok (.bool (!(a == b))) w := by simp only [binOp]; simp [h1]
    simp only [execOp, ha.ev hx, ha.ev hy, eqGuard]
    simp [h2])
theorem Y.ext {x : Operand} {i : Nat} {vs : List Value} {v : Value} (hx : ev env x = some (.tuple vs.toArray)) (hv : vs[i]? = some v)   : Yld P ops s env w ⟨some d, .extract x i, ty, pos, aft, none⟩ (v) :=
  Yld.of (fun a ha => by simp [execOp, ha.ev hx, Instr.extract, hv])
theorem Y.min2 {ats : Array TypeId} {x y : Operand} {k : IntKind} {a b : Int} (hx : ev env x = some (.int k a)) (hy : ev env y = some (.int k b)) 
      : Yld P ops s env w ⟨some d, .call ⟨.builtin .min, #[x, y], ats⟩, ty, pos, aft, none⟩ (.int k (min a b)) :=
  Yld.of (fun a' ha => by
    have e : (if b < a then b else a) = min a b := by rw [Int.min_def]; split <;> split <;> omega
    simp [execOp, resolve, invoke, builtin, Builtin.min_, Builtin.min2, ha.ev hx, ha.ev hy, e])
theorem Y.max2 {ats : Array TypeId} {x y : Operand} {k : IntKind} {a b : Int} (hx : ev env x = some (.int k a)) (hy : ev env y = some (.int k b)) 
      : Yld P ops s env w ⟨some d, .call ⟨.builtin .max, #[x, y], ats⟩, ty, pos, aft, none⟩ (.int k (max a b)) :=
  Yld.of (fun a' ha => by
    have e : (if b > a then b else a) = max a b := by rw [Int.max_def]; split <;> split <;> omega
    simp [execOp, resolve, invoke, builtin, Builtin.max_, Builtin.max2, ha.ev hx, ha.ev hy, e])
theorem Y.lenS {t : TypeId} {x : Operand} {b : ByteArray} (hx : ev env x = some (.string b)) (ht : P.underlying t = some .string) 
     : Yld P ops s env w ⟨some d, .call ⟨.builtin .len, #[x], #[t]⟩, ty, pos, aft, none⟩ (.int .i64 (b.size : Int)) :=
  Yld.of (fun a' ha => by simp [execOp, resolve, invoke, builtin, Builtin.len_, run_underlying ht, goInt, ha.ev hx])
theorem Y.nilc {x : Operand} {a : Addr} (hx : ev env x = some (.pointer (some a)))   : Yld P ops s env w ⟨some d, .nilCheck x, ty, pos, aft, none⟩ (.pointer (some a)) :=
  Yld.of (fun a' ha => by simp [execOp, ha.ev hx])
theorem Y.eqnil {t t2 e : TypeId} {x y : Operand} {a : Option Addr} (hx : ev env x = some (.pointer a)) (hy : ev env y = some (.pointer none)) (ht : P.underlying t = some (.pointer e))
      : Yld P ops s env w ⟨some d, .binOp .eql t x y t2, ty, pos, aft, none⟩ (.bool a.isNone) :=
  Yld.of (fun a' ha => by
    have h1 : (Op.equal t (.pointer a) (.pointer none)).run P w = .ok a.isNone w := by
      show (Op.equalIn (9999 + 1) t (.pointer a) (.pointer none)).run P w = _
      unfold Op.equalIn
      rw [Sem.run_bind, run_underlying ht]
      cases a <;> rfl
    have h2 : (binOp .eql t (.pointer a) (.pointer none)).run P w = .ok (.bool a.isNone) w := by simp only [binOp]; simp [h1]
    simp only [execOp, ha.ev hx, ha.ev hy, eqGuard]
    simp [h2])
theorem Y.nenil {t t2 e : TypeId} {x y : Operand} {a : Option Addr} (hx : ev env x = some (.pointer a)) (hy : ev env y = some (.pointer none)) (ht : P.underlying t = some (.pointer e))
      : Yld P ops s env w ⟨some d, .binOp .neq t x y t2, ty, pos, aft, none⟩ (.bool (!a.isNone)) :=
  Yld.of (fun a' ha => by
    have h1 : (Op.equal t (.pointer a) (.pointer none)).run P w = .ok a.isNone w := by
      show (Op.equalIn (9999 + 1) t (.pointer a) (.pointer none)).run P w = _
      unfold Op.equalIn
      rw [Sem.run_bind, run_underlying ht]
      cases a <;> rfl
    have h2 : (binOp .neq t (.pointer a) (.pointer none)).run P w = .ok (.bool (!a.isNone)) w := by simp only [binOp]; simp [h1]
    simp only [execOp, ha.ev hx, ha.ev hy, eqGuard]
    simp [h2])
theorem Y.fld {t : TypeId} {x : Operand} {f o b off : Nat} {fs : Array Field} {fd : Field} {sz : Nat} (hx : ev env x = some (.pointer (some ⟨b, off, none⟩))) (ht : P.underlying t = some (.struct fs)) (hf : fs[f]? = some fd) (ho : fd.offset = o)
    (hs : (P.info? fd.type).map (·.size) = some (sz + 1))   : Yld P ops s env w ⟨some d, .fieldAddr t x f, ty, pos, aft, none⟩ (.pointer (some ⟨b, off + o, none⟩)) :=
  Yld.of (fun a' ha => by
    subst ho
    cases hq : P.info? fd.type with
    | none => simp [hq] at hs
    | some inf =>
      have hs' : inf.size = sz + 1 := by simpa [hq] using hs
      simp [execOp, ha.ev hx, Instr.fieldAt, Instr.sureAddr, run_underlying ht, hf, fieldPlace, sizeOf, typeInfo, hq, hs', addr_add])
theorem Y.field {t : TypeId} {x : Operand} {f : Nat} {fs : Array Field} {fd : Field} {cs : List Value} {u : Value} {ds : TypeDesc} (hx : ev env x = some (.agg cs.toArray)) (ht : P.underlying t = some (.struct fs)) (hf : fs[f]? = some fd)
    (hu : P.underlying fd.type = some ds) (hna : (match ds with | .struct _ | .array _ _ => true | _ => false) = false) (hc : cs[fd.offset]? = some u)
      : Yld P ops s env w ⟨some d, .field t x f, ty, pos, aft, none⟩ (u) :=
  Yld.of (fun a' ha => by
    have hagg : (isAgg fd.type).run P w = .ok false w := by
      unfold isAgg
      rw [Sem.run_bind, run_underlying hu w]
      cases ds <;> simp_all
    simp [execOp, ha.ev hx, Instr.field, run_underlying ht, hf, asAgg, part, hagg, hc])
theorem Y.idxA {t e : TypeId} {x ix : Operand} {k : IntKind} {i : Int} {sz n b off : Nat} (hx : ev env x = some (.pointer (some ⟨b, off, none⟩))) (hi : ev env ix = some (.int k i))
    (ht : P.underlying t = some (.array n e)) (hs : (P.info? e).map (·.size) = some sz) (h0 : 0 ≤ i) (h1 : i < n) 
     : Yld P ops s env w ⟨some d, .indexAddr t x ix, ty, pos, aft, none⟩ (.pointer (some ⟨b, off + i.toNat * sz, none⟩)) := by
  refine Yld.of fun a' ha => ?_
  cases hq : P.info? e with
  | none => simp [hq] at hs
  | some inf =>
    have hs' : inf.size = sz := by simpa [hq] using hs
    simp [execOp, ha.ev hx, ha.ev hi, Instr.indexAt, Instr.sureAddr, asIntOf, run_underlying ht, sizeOf, typeInfo, hq, hs', h0, h1, addr_add]
theorem Y.loadA {t : TypeId} {x : Operand} {b off : Nat} {cs : List Value} {ds : TypeDesc} (hx : ev env x = some (.pointer (some ⟨b, off, none⟩))) (ht : P.underlying t = some ds) (hna : (match ds with | .struct _ | .array _ _ => true | _ => false) = true)
    (hs : (P.info? t).map (·.size) = some cs.length) (hc : At w b off cs)   : Yld P ops s env w ⟨some d, .load t x, ty, pos, aft, none⟩ (.agg cs.toArray) :=
  Yld.of (fun a' ha => by
    have hagg : (isAgg t).run P w = .ok true w := by
      unfold isAgg
      rw [Sem.run_bind, run_underlying ht w]
      cases ds <;> simp_all
    have hl : (loadCells ⟨b, off, none⟩ cs.length).run P w = .ok cs.toArray w := run_loadCells_list (P := P) w ⟨b, off, none⟩ cs (fun j v hv => by rw [addr_add]; exact hc j v hv)
    cases hq : P.info? t with
    | none => simp [hq] at hs
    | some inf =>
      have hs' : inf.size = cs.length := by simpa [hq] using hs
      simp [execOp, ha.ev hx, Instr.loadAt, Instr.sureAddr, loadVar, hagg, sizeOf, typeInfo, hq, hs', hl])
theorem Y.build {t : TypeId} {xs : List (Nat × Operand)} {vs : List (Nat × Value)} {cs : List Value} (hx : evp env xs = some vs) (hb : (Instr.build t vs.toArray).run P w = .ok (.agg cs.toArray) w)
      : Yld P ops s env w ⟨some d, .build t xs.toArray, ty, pos, aft, none⟩ (.agg cs.toArray) :=
  Yld.of (fun a ha => by
    have e : (xs.toArray.map fun (i, x) => (i, a.eval x)) = vs.toArray := by rw [List.map_toArray, ← ha.evp hx]
    simp only [execOp]
    rw [e, Sem.run_bind, hb]; rfl)
theorem Y.lenv {t e : TypeId} {x : Operand} {n : Nat} {v : Value} (hx : ev env x = some v) (hR : ∃ a cap, v = .slice a n cap) (ht : P.underlying t = some (.slice e)) 
     : Yld P ops s env w ⟨some d, .call ⟨.builtin .len, #[x], #[t]⟩, ty, pos, aft, none⟩ (.int .i64 (n : Int)) := by
  obtain ⟨a, cap, rfl⟩ := hR
  exact Yld.of (fun a' ha => by simp [execOp, resolve, invoke, builtin, Builtin.len_, run_underlying ht, goInt, ha.ev hx])
theorem Y.idx {t e : TypeId} {x ix : Operand} {k : IntKind} {i : Int} {sz n : Nat} {v : Value} {cs : List Value} (hx : ev env x = some v) (hi : ev env ix = some (.int k i)) (hR : Rd w sz v n cs)
    (ht : P.underlying t = some (.slice e)) (hs : (P.info? e).map (·.size) = some sz) (h0 : 0 ≤ i) (h1 : i < n) (hsz : 0 < sz) 
     : Yld P ops s env w ⟨some d, .indexAddr t x ix, ty, pos, aft, none⟩ (.pointer (some (el v (i.toNat * sz)))) := by
  obtain ⟨a, cap, rfl, hc1, hc2, hl, ha0, hat⟩ := hR
  have hpos : 0 < cs.length := by rw [hl]; exact Nat.mul_pos (by omega) hsz
  obtain ⟨b, off, rfl⟩ := ha0 hpos
  refine Yld.of fun a' ha => ?_
  cases hq : P.info? e with
  | none => simp [hq] at hs
  | some inf =>
    have hs' : inf.size = sz := by simpa [hq] using hs
    simp [execOp, ha.ev hx, ha.ev hi, Instr.indexAt, asIntOf, run_underlying ht, sizeOf, typeInfo, hq, hs', h0, h1, addr_add, el, bs]
theorem Y.load {t : TypeId} {x : Operand} {ad : Addr} {u : Value} {ds : TypeDesc} (hx : ev env x = some (.pointer (some ad))) (ht : P.underlying t = some ds) (hna : (match ds with | .struct _ | .array _ _ => true | _ => false) = false)
    (hc : w.cell? ad = some u)   : Yld P ops s env w ⟨some d, .load t x, ty, pos, aft, none⟩ (u) :=
  Yld.of (fun a' ha => by
    have hagg : (isAgg t).run P w = .ok false w := by
      unfold isAgg
      rw [Sem.run_bind, run_underlying ht w]
      cases ds <;> simp_all
    simp [execOp, ha.ev hx, Instr.loadAt, Instr.sureAddr, loadVar, hagg, hc])
theorem Y.len {t e : TypeId} {x : Operand} {sz n : Nat} {v : Value} {cs : List Value} (hx : ev env x = some v) (hR : Rd w sz v n cs) (ht : P.underlying t = some (.slice e)) 
     : Yld P ops s env w ⟨some d, .call ⟨.builtin .len, #[x], #[t]⟩, ty, pos, aft, none⟩ (.int .i64 (n : Int)) := by
  obtain ⟨a, cap, rfl⟩ := hR.shape
  exact Yld.of (fun a' ha => by simp [execOp, resolve, invoke, builtin, Builtin.len_, run_underlying ht, goInt, ha.ev hx])
theorem Y.add {t t2 : TypeId} {x y : Operand} {a b : Int} (hx : ev env x = some (.int .i64 a)) (hy : ev env y = some (.int .i64 b)) (hr : -9223372036854775808 ≤ a + b ∧ a + b ≤ 9223372036854775807)
      : Yld P ops s env w ⟨some d, .binOp .add t x y t2, ty, pos, aft, none⟩ (.int .i64 (a + b)) :=
  Y.bin hx hy (v := .int .i64 (a + b)) (by simp only [iop]; rw [IntWalk.i64_in _ hr])
theorem Y.sub' {t t2 : TypeId} {x y : Operand} {a b : Int} (hx : ev env x = some (.int .i64 a)) (hy : ev env y = some (.int .i64 b)) (hr : -9223372036854775808 ≤ a - b ∧ a - b ≤ 9223372036854775807)
      : Yld P ops s env w ⟨some d, .binOp .sub t x y t2, ty, pos, aft, none⟩ (.int .i64 (a - b)) :=
  Y.bin hx hy (v := .int .i64 (a - b)) (by simp only [iop]; rw [IntWalk.i64_in _ hr])
theorem Y.mul {t t2 : TypeId} {x y : Operand} {a b : Int} (hx : ev env x = some (.int .i64 a)) (hy : ev env y = some (.int .i64 b)) (hr : -9223372036854775808 ≤ a * b ∧ a * b ≤ 9223372036854775807)
      : Yld P ops s env w ⟨some d, .binOp .mul t x y t2, ty, pos, aft, none⟩ (.int .i64 (a * b)) :=
  Y.bin hx hy (v := .int .i64 (a * b)) (by simp only [iop]; rw [IntWalk.i64_in _ hr])
theorem Y.binw {op : BinOp} {t t2 : TypeId} {x y : Operand} {k : IntKind} {a b : Int} {v v' : Value} (hx : ev env x = some (.int k a)) (hy : ev env y = some (.int k b)) (hv : iop op k a b = some v) (he : v = v')
      : Yld P ops s env w ⟨some d, .binOp op t x y t2, ty, pos, aft, none⟩ (v') :=
  Y.bin hx hy (hv.trans (congrArg some he))
end
end Go.Proofs.Ytnnmebpahickhaa.Sym

/- Union-find, as plain mathematics: a list of parents. -/
namespace Go.Proofs.Ytnnmebpahickhaa.Uf
set_option linter.unusedSimpArgs false
set_option linter.unusedVariables false

/-- the root of i is r, n steps away -/
def PathN (par : List Int) : Nat → Nat → Nat → Prop
  | 0, i, r => i = r ∧ par[i]? = some (i : Int)
  | n + 1, i, r => ∃ j : Nat, par[i]? = some (j : Int) ∧ i ≠ j ∧ PathN par n j r
theorem PathN.det {par : List Int} : ∀ {n m i r s}, PathN par n i r → PathN par m i s → n = m ∧ r = s
  | 0, 0, i, r, s, h, k => ⟨rfl, h.1.symm.trans k.1⟩
  | 0, m + 1, i, r, s, h, k => by
    obtain ⟨j, h1, h2, _⟩ := k
    rw [h.2] at h1; have := Option.some.inj h1; omega
  | n + 1, 0, i, r, s, h, k => by
    obtain ⟨j, h1, h2, _⟩ := h
    rw [k.2] at h1; have := Option.some.inj h1; omega
  | n + 1, m + 1, i, r, s, h, k => by
    obtain ⟨j, h1, h2, h3⟩ := h
    obtain ⟨j', k1, k2, k3⟩ := k
    rw [h1] at k1
    have : j = j' := by have := Option.some.inj k1; omega
    subst this
    have := PathN.det h3 k3
    exact ⟨by omega, this.2⟩
theorem PathN.root {par : List Int} : ∀ {n i r}, PathN par n i r → par[r]? = some (r : Int)
  | 0, i, r, h => by rw [← h.1]; exact h.2
  | n + 1, i, r, h => by obtain ⟨j, _, _, h3⟩ := h; exact h3.root
theorem PathN.lt {par : List Int} : ∀ {n i r}, PathN par n i r → i < par.length
  | 0, i, r, h => (List.getElem?_eq_some_iff.1 h.2).1
  | n + 1, i, r, h => by obtain ⟨j, h1, _⟩ := h; exact (List.getElem?_eq_some_iff.1 h1).1
theorem PathN.lt' {par : List Int} {n i r : Nat} (h : PathN par n i r) : r < par.length := (List.getElem?_eq_some_iff.1 h.root).1
def Root (par : List Int) (i r : Nat) : Prop := ∃ n, PathN par n i r
theorem Root.det {par : List Int} {i r s : Nat} (h : Root par i r) (k : Root par i s) : r = s := by
  obtain ⟨n, h⟩ := h; obtain ⟨m, k⟩ := k; exact (h.det k).2
theorem Root.lt {par : List Int} {i r : Nat} (h : Root par i r) : i < par.length := h.choose_spec.lt
theorem Root.lt' {par : List Int} {i r : Nat} (h : Root par i r) : r < par.length := h.choose_spec.lt'
theorem Root.self {par : List Int} {i r : Nat} (h : Root par i r) : Root par r r := ⟨0, rfl, h.choose_spec.root⟩
/-- the list may only be changed so that an element points at its root, if it is at most n steps away -/
def Closed (par : List Int) (D : Nat → Prop) : Prop := ∀ (x y : Nat), D x → par[x]? = some (y : Int) → D y
def Comp (n i : Nat) (par par' : List Int) : Prop := par'.length = par.length ∧ ∀ k : Nat, par'[k]? = par[k]? ∨ ∃ m r : Nat, m ≤ n ∧ PathN par m k r ∧ par'[k]? = some (r : Int) ∧ ∀ D : Nat → Prop, D i → Closed par D → D k
theorem Comp.refl (n i : Nat) (par : List Int) : Comp n i par par := ⟨rfl, fun _ => .inl rfl⟩
theorem Comp.path {n o : Nat} {par par' : List Int} (h : Comp n o par par') : ∀ {m i r}, PathN par m i r → Root par' i r
  | 0, i, r, k => by
    obtain ⟨rfl, k⟩ := k
    refine ⟨0, rfl, ?_⟩
    rcases h.2 i with h1 | ⟨m, s, _, h2, h3, _⟩
    · rw [h1]; exact k
    · have := (h2.det (m := 0) ⟨rfl, k⟩).2; subst this; exact h3
  | m + 1, i, r, k => by
    have hk := k
    obtain ⟨j, h1, h2, h3⟩ := k
    obtain ⟨q, hq⟩ := h.path h3
    rcases h.2 i with h4 | ⟨m', s, _, h5, h6, _⟩
    · exact ⟨q + 1, j, by rw [h4]; exact h1, h2, hq⟩
    · have := (h5.det hk).2; subst this
      have hs := hq.root
      by_cases e : i = s
      · subst e; exact ⟨0, rfl, hs⟩
      · exact ⟨1, s, h6, e, rfl, hs⟩
theorem Comp.root {n o : Nat} {par par' : List Int} (h : Comp n o par par') {i r : Nat} (k : Root par i r) : Root par' i r := by
  obtain ⟨m, k⟩ := k; exact h.path k
theorem Comp.out {n o : Nat} {par par' : List Int} (h : Comp n o par par') {D : Nat → Prop} (ho : D o) (hc : Closed par D) {k : Nat} (hk : ¬ D k) : par'[k]? = par[k]? := by
  rcases h.2 k with h1 | ⟨_, _, _, _, _, h2⟩
  · exact h1
  · exact (hk (h2 D ho hc)).elim
/-- what find does: the step behind the inner call -/
theorem Comp.step {n i j r : Nat} {par par1 : List Int} (h1 : par[i]? = some (j : Int)) (h2 : i ≠ j) (h3 : PathN par n j r) (h : Comp n j par par1) : par1[i]? = some (j : Int) ∧ Comp (n + 1) i par (par1.set i (r : Int)) := by
  have hp : PathN par (n + 1) i r := ⟨j, h1, h2, h3⟩
  refine ⟨?_, by simpa using h.1, fun k => ?_⟩
  · rcases h.2 i with h4 | ⟨m, s, hm, h5, _⟩
    · rw [h4]; exact h1
    · have := (h5.det hp).1; omega
  · by_cases e : i = k
    · subst e
      have hlt : i < par1.length := by rw [h.1]; exact hp.lt
      exact .inr ⟨n + 1, r, Nat.le_refl _, hp, by rw [List.getElem?_set_self hlt], fun D hD _ => hD⟩
    · rw [List.getElem?_set_ne e]
      rcases h.2 k with h4 | ⟨m, s, hm, h5, h6, h7⟩
      · exact .inl h4
      · exact .inr ⟨m, s, by omega, h5, h6, fun D hD hc => h7 D (hc i j hD h1) hc⟩
/-- one root is hung below another one -/
theorem Root.hang {par : List Int} {a b : Nat} (ha : Root par a a) (hb : Root par b b) (hne : a ≠ b) {i r : Nat} (h : Root par i r) : Root (par.set b (a : Int)) i (if r = b then a else r) := by
  have hbl : b < par.length := hb.lt
  have ha0 : par[a]? = some (a : Int) := ha.choose_spec.root
  have hb0 : par[b]? = some (b : Int) := hb.choose_spec.root
  obtain ⟨n, h⟩ := h
  induction n generalizing i with
  | zero =>
    obtain ⟨rfl, h⟩ := h
    by_cases e : i = b
    · subst e
      rw [if_pos rfl]
      exact ⟨1, a, by rw [List.getElem?_set_self hbl], fun e => hne e.symm, rfl, by rw [List.getElem?_set_ne (fun e => hne e.symm)]; exact ha0⟩
    · rw [if_neg e]
      exact ⟨0, rfl, by rw [List.getElem?_set_ne (fun e' => e e'.symm)]; exact h⟩
  | succ n ih =>
    obtain ⟨j, h1, h2, h3⟩ := h
    obtain ⟨m, hm⟩ := ih h3
    refine ⟨m + 1, j, ?_, h2, hm⟩
    by_cases e : b = i
    · subst e; rw [hb0] at h1; have := Option.some.inj h1; omega
    · rw [List.getElem?_set_ne e]; exact h1

/-- the equivalence that pairs span -/
inductive Cl (E : Nat → Nat → Prop) : Nat → Nat → Prop
  | refl (i) : Cl E i i
  | edge {i j} : E i j → Cl E i j
  | symm {i j} : Cl E i j → Cl E j i
  | trans {i j k} : Cl E i j → Cl E j k → Cl E i k
theorem Cl.mono {E F : Nat → Nat → Prop} (h : ∀ i j, E i j → Cl F i j) {i j : Nat} (k : Cl E i j) : Cl F i j := by
  induction k with
  | refl i => exact .refl i
  | edge e => exact h _ _ e
  | symm _ ih => exact .symm ih
  | trans _ _ ih1 ih2 => exact .trans ih1 ih2
/-- one pair more -/
theorem Cl.add {E : Nat → Nat → Prop} {a b i j : Nat} : Cl (fun x y => E x y ∨ (x = a ∧ y = b)) i j ↔ Cl E i j ∨ (Cl E i a ∧ Cl E b j) ∨ (Cl E i b ∧ Cl E a j) := by
  constructor
  · intro h
    induction h with
    | refl i => exact .inl (.refl i)
    | edge e =>
      rcases e with e | ⟨rfl, rfl⟩
      · exact .inl (.edge e)
      · exact .inr (.inl ⟨.refl _, .refl _⟩)
    | symm _ ih =>
      rcases ih with h | ⟨h1, h2⟩ | ⟨h1, h2⟩
      · exact .inl h.symm
      · exact .inr (.inr ⟨h2.symm, h1.symm⟩)
      · exact .inr (.inl ⟨h2.symm, h1.symm⟩)
    | trans _ _ ih1 ih2 =>
      rcases ih1 with h | ⟨h1, h2⟩ | ⟨h1, h2⟩ <;> rcases ih2 with k | ⟨k1, k2⟩ | ⟨k1, k2⟩
      · exact .inl (h.trans k)
      · exact .inr (.inl ⟨h.trans k1, k2⟩)
      · exact .inr (.inr ⟨h.trans k1, k2⟩)
      · exact .inr (.inl ⟨h1, h2.trans k⟩)
      · exact .inr (.inl ⟨h1, k2⟩)
      · exact .inl (h1.trans k2)
      · exact .inr (.inr ⟨h1, h2.trans k⟩)
      · exact .inl (h1.trans k2)
      · exact .inr (.inr ⟨h1, k2⟩)
  · rintro (h | ⟨h1, h2⟩ | ⟨h1, h2⟩)
    · exact h.mono fun _ _ e => .edge (.inl e)
    · exact ((h1.mono fun _ _ e => .edge (.inl e)).trans (.edge (.inr ⟨rfl, rfl⟩))).trans (h2.mono fun _ _ e => .edge (.inl e))
    · exact ((h1.mono fun _ _ e => .edge (.inl e)).trans (.symm (.edge (.inr ⟨rfl, rfl⟩)))).trans (h2.mono fun _ _ e => .edge (.inl e))
/-- the parents' list says exactly what is joined: D are its elements -/
structure Says (par : List Int) (D : Nat → Prop) (E : Nat → Nat → Prop) : Prop where
  root : ∀ i, D i → ∃ r, D r ∧ Root par i r
  step : Closed par D
  same : ∀ i j r s, D i → D j → Root par i r → Root par j s → (r = s ↔ Cl E i j)
theorem Says.comp {n o : Nat} {par par' : List Int} {D : Nat → Prop} {E : Nat → Nat → Prop} (h : Says par D E) (k : Comp n o par par') : Says par' D E where
  root i hi := let ⟨r, h1, h2⟩ := h.root i hi; ⟨r, h1, k.root h2⟩
  step i j hi hj := by
    rcases k.2 i with e | ⟨m, r, _, h2, h3, _⟩
    · exact h.step i j hi (e ▸ hj)
    · rw [h3] at hj
      have : r = j := by have := Option.some.inj hj; omega
      subst this
      obtain ⟨s, h4, h5⟩ := h.root i hi
      have := h5.det ⟨m, h2⟩; subst this; exact h4
  same i j r s hi hj hr hs := by
    obtain ⟨r', _, h1⟩ := h.root i hi
    obtain ⟨s', _, h2⟩ := h.root j hj
    have e1 := (k.root h1).det hr; have e2 := (k.root h2).det hs
    subst e1 e2
    exact h.same i j _ _ hi hj h1 h2
theorem Says.cl {par : List Int} {D : Nat → Prop} {E F : Nat → Nat → Prop} (h : Says par D E) (k : ∀ i j, Cl E i j ↔ Cl F i j) : Says par D F where
  root := h.root
  step := h.step
  same i j r s hi hj hr hs := (h.same i j r s hi hj hr hs).trans (k i j)
theorem Says.hang {par : List Int} {D : Nat → Prop} {E : Nat → Nat → Prop} {a b ra rb : Nat} (h : Says par D E) (ha : D a) (hb : D b) (hra : Root par a ra) (hrb : Root par b rb) (hne : ra ≠ rb) (x y : Nat) (hxy : (x = ra ∧ y = rb) ∨ (x = rb ∧ y = ra)) :
    Says (par.set y (x : Int)) D (fun i j => E i j ∨ (i = a ∧ j = b)) := by
  have hx : Root par x x := hxy.elim (fun e => e.1 ▸ hra.self) (fun e => e.1 ▸ hrb.self)
  have hy : Root par y y := hxy.elim (fun e => e.2 ▸ hrb.self) (fun e => e.2 ▸ hra.self)
  have hxy' : x ≠ y := by omega
  have hDx : D x := by
    rcases hxy with ⟨rfl, _⟩ | ⟨rfl, _⟩
    · obtain ⟨r, h1, h2⟩ := h.root a ha; have := h2.det hra; subst this; exact h1
    · obtain ⟨r, h1, h2⟩ := h.root b hb; have := h2.det hrb; subst this; exact h1
  refine ⟨fun i hi => ?_, fun i j hi hj => ?_, fun i j r s hi hj hr hs => ?_⟩
  · obtain ⟨r, h1, h2⟩ := h.root i hi
    refine ⟨if r = y then x else r, ?_, Root.hang hx hy hxy' h2⟩
    split
    · exact hDx
    · exact h1
  · by_cases e : y = i
    · subst e
      rw [List.getElem?_set_self hy.lt] at hj
      have : x = j := by have := Option.some.inj hj; omega
      subst this; exact hDx
    · rw [List.getElem?_set_ne e] at hj; exact h.step i j hi hj
  · obtain ⟨r', _, h1⟩ := h.root i hi
    obtain ⟨s', _, h2⟩ := h.root j hj
    have e1 := (Root.hang hx hy hxy' h1).det hr
    have e2 := (Root.hang hx hy hxy' h2).det hs
    rw [Cl.add, ← h.same i j _ _ hi hj h1 h2, ← h.same i a _ _ hi ha h1 hra, ← h.same b j _ _ hb hj hrb h2, ← h.same i b _ _ hi hb h1 hrb, ← h.same a j _ _ ha hj hra h2, ← e1, ← e2]
    clear e1 e2 hr hs h1 h2 hra hrb hx hy hDx ha hb hi hj
    by_cases c1 : r' = y <;> by_cases c2 : s' = y
    · rw [if_pos c1, if_pos c2]; omega
    · rw [if_pos c1, if_neg c2]; omega
    · rw [if_neg c1, if_pos c2]; omega
    · rw [if_neg c1, if_neg c2]; omega
theorem Says.already {par : List Int} {D : Nat → Prop} {E : Nat → Nat → Prop} {a b r : Nat} (h : Says par D E) (ha : D a) (hb : D b) (hra : Root par a r) (hrb : Root par b r) : Says par D (fun i j => E i j ∨ (i = a ∧ j = b)) :=
  h.cl fun i j => by
    have hab : Cl E a b := (h.same a b r r ha hb hra hrb).1 rfl
    rw [Cl.add]
    exact ⟨.inl, fun h => h.elim id fun h => h.elim (fun h => (h.1.trans hab).trans h.2) (fun h => (h.1.trans hab.symm).trans h.2)⟩
theorem Cl.in {D : Nat → Prop} {E : Nat → Nat → Prop} (hE : ∀ i j, E i j → D i ∧ D j) {i j : Nat} (h : Cl E i j) : i = j ∨ (D i ∧ D j) := by
  induction h with
  | refl i => exact .inl rfl
  | edge e => exact .inr (hE _ _ e)
  | symm _ ih => exact ih.elim (fun e => .inl e.symm) (fun e => .inr ⟨e.2, e.1⟩)
  | trans _ _ ih1 ih2 =>
    rcases ih1 with rfl | h1
    · exact ih2
    · rcases ih2 with rfl | h2
      · exact .inr h1
      · exact .inr ⟨h1.1, h2.2⟩
/-- what lies outside the elements is set -/
theorem Root.away {par : List Int} {D : Nat → Prop} (hstep : Closed par D) {a : Nat} (hD : ∀ i, D i → i ≠ a) (z : Int) {i r : Nat} (hi : D i) (h : Root par i r) : Root (par.set a z) i r := by
  obtain ⟨n, hn⟩ := h
  induction n generalizing i with
  | zero =>
    obtain ⟨rfl, hn⟩ := hn
    exact ⟨0, rfl, by rw [List.getElem?_set_ne (fun e => hD i hi e.symm)]; exact hn⟩
  | succ n ih =>
    obtain ⟨j, h1, h2, h3⟩ := hn
    obtain ⟨m, hm⟩ := ih (hstep i j hi h1) h3
    exact ⟨m + 1, j, by rw [List.getElem?_set_ne (fun e => hD i hi e.symm)]; exact h1, h2, hm⟩
theorem Says.away {par : List Int} {D : Nat → Prop} {E : Nat → Nat → Prop} {a : Nat} (h : Says par D E) (hD : ∀ i, D i → i ≠ a) (z : Int) : Says (par.set a z) D E where
  root i hi := let ⟨r, h1, h2⟩ := h.root i hi; ⟨r, h1, Root.away h.step hD z hi h2⟩
  step i j hi hj := h.step i j hi (by rw [List.getElem?_set_ne (fun e => hD i hi e.symm)] at hj; exact hj)
  same i j r s hi hj hr hs := by
    obtain ⟨r', _, h1⟩ := h.root i hi
    obtain ⟨s', _, h2⟩ := h.root j hj
    have e1 := (Root.away h.step hD z hi h1).det hr; have e2 := (Root.away h.step hD z hj h2).det hs
    subst e1 e2
    exact h.same i j _ _ hi hj h1 h2
/-- one element more, alone -/
theorem Says.one {par : List Int} {D : Nat → Prop} {E : Nat → Nat → Prop} {a : Nat} (h : Says par D E) (hlt : a < par.length) (hD : ∀ i, D i → i ≠ a) (hE : ∀ i j, E i j → D i ∧ D j) : Says (par.set a (a : Int)) (fun i => D i ∨ i = a) E := by
  have h' := h.away hD (a : Int)
  have ha : Root (par.set a (a : Int)) a a := ⟨0, rfl, by rw [List.getElem?_set_self hlt]⟩
  have hno : ∀ i, D i → ¬ Cl E i a := fun i hi hc => (hc.in hE).elim (fun e => hD i hi e) (fun e => hD a e.2 rfl)
  have hrt : ∀ i r, D i → Root (par.set a (a : Int)) i r → r ≠ a := fun i r hi hr => by
    obtain ⟨s, h1, h2⟩ := h'.root i hi
    have := h2.det hr; subst this; exact hD s h1
  refine ⟨fun i hi => ?_, fun i j hi hj => ?_, fun i j r s hi hj hr hs => ?_⟩
  · rcases hi with hi | rfl
    · obtain ⟨r, h1, h2⟩ := h'.root i hi; exact ⟨r, .inl h1, h2⟩
    · exact ⟨i, .inr rfl, ha⟩
  · rcases hi with hi | rfl
    · exact .inl (h'.step i j hi hj)
    · rw [List.getElem?_set_self hlt] at hj
      exact .inr (by have := Option.some.inj hj; omega)
  · rcases hi with hi | rfl <;> rcases hj with hj | rfl
    · exact h'.same i j r s hi hj hr hs
    · have := ha.det hs; subst this
      exact ⟨fun e => (hrt i r hi hr e).elim, fun c => (hno i hi c).elim⟩
    · have := ha.det hr; subst this
      exact ⟨fun e => (hrt j s hj hs e.symm).elim, fun c => (hno j hj c.symm).elim⟩
    · have e1 := ha.det hr; have e2 := ha.det hs
      exact ⟨fun _ => .refl _, fun _ => by omega⟩
end Go.Proofs.Ytnnmebpahickhaa.Uf
