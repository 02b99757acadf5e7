/- Texts of the claim, laid together: SymS, SymH, SymR. -/
import Derived.StillTail
import Derived.OrdersHeld
import Derived.Deep.RegionHeld3
import Derived.Test.YtajklleiifhipaaGreatDoorY1
set_option linter.unusedSimpArgs false
set_option linter.unusedVariables false
namespace Go.Proofs.YtajklleiifhipaaGreatDoor.Sym
open Go.RowKit
def wpS (P : Program) (ops : Array Oper) (Lq : Act → Prop) (s : St) (l : List Oper) (env : Env) (w : World) : Prop := ∀ a, Sat s a env → wpStill P ops w Lq l a
section
variable {P : Program} {ops : Array Oper} {Q : Exit → Act → World → Prop} {Lq : Act → Prop} {s : St} {env : Env} {w : World} {rest : List Oper}
variable {d : Nat} {ty : TypeId} {pos : String} {aft : Array Edge}
theorem C.drawnT {id : Nat} {l : List Oper} (n : Nat) (hm : P.follows .mixedOrders = true) (hB : Region.lexTailB .any l.toArray n = true) (h : ∀ w', Ext w w' → wpS P l.toArray (fun a' => wpList P l.toArray Q (l.drop n) a' w') s (l.take n) env w') : wpC P (.region id l.toArray true) Q s env w :=
 fun a ha => wp_region_still_tail n hm hB (h _ (Ext.refl w).drew a ha)
theorem S.nil {tail : List Oper} (h : wpE P ops Q s tail env w) : wpS P ops (fun a' => wpList P ops Q tail a' w) s [] env w := fun a ha => wpStill_nil (h a ha)
theorem wpStill_one {o : Oper} {a : Act} (hg : o.guard = none) (h : o.still P a w (wpStill P ops w Lq rest)) : wpStill P ops w Lq (o :: rest) a := by
 unfold wpStill
 rw [if_pos (by simp [Region.wanted, hg])]; exact h
theorem S.op {op : Op} {v : Value} (hrun : ∀ a, Sat s a env → (execOp a.eval ⟨some d, op, ty, pos, aft, none⟩).run P w = .ok (.value v) w)
  (hd : Nat.blt d s.n = true) (h : wpS P ops Lq s rest ((d, v) :: env) w) : wpS P ops Lq s (⟨some d, op, ty, pos, aft, none⟩ :: rest) env w := fun a ha =>
 wpStill_one rfl (by unfold Oper.still; rw [hrun a ha, Oper.stillUpon_value]; exact h _ (ha.put d v hd))
theorem S.on {dst : Option Nat} {op : Op} {j sl : Nat} {b : Bool} (hs : (ops[j]?).bind (·.dst) = some sl) (hb : look env sl = some (.bool b))
  (h : wpS P ops Lq s (⟨dst, op, ty, pos, aft, none⟩ :: rest) env w) : wpS P ops Lq s (⟨dst, op, ty, pos, aft, some (j, b)⟩ :: rest) env w := fun a ha => by
 have h1 := h a ha
 unfold wpStill at h1 ⊢
 have hy : yielded ops a.tmps j = some b := by simp [yielded, hs, ha.get sl _ hb]
 simp only [Region.wanted, hy, beq_self_eq_true, if_true] at h1 ⊢
 exact h1
theorem S.off {op : Op} {j sl : Nat} {b c : Bool} (hs : (ops[j]?).bind (·.dst) = some sl) (hb : look env sl = some (.bool c)) (hne : (c == b) = false) (hd : Nat.blt d s.n = true)
  (h : wpS P ops Lq s rest ((d, undef) :: env) w) : wpS P ops Lq s (⟨some d, op, ty, pos, aft, some (j, b)⟩ :: rest) env w := fun a ha => by
 have hy : yielded ops a.tmps j = some c := by simp [yielded, hs, ha.get sl _ hb]
 unfold wpStill
 simp only [Region.wanted, hy]
 have : (some c == some b) = false := by simpa using hne
 simp only [this]
 exact h _ (ha.put d undef hd)
theorem S.mv {x : Operand} {v : Value} (hx : ev env x = some v) (hd : Nat.blt d s.n = true) (h : wpS P ops Lq s rest ((d, v) :: env) w) : wpS P ops Lq s (⟨some d, .move x, ty, pos, aft, none⟩ :: rest) env w :=
 S.op (fun a ha => by simp [execOp, ha.ev hx]) hd h
theorem S.bin {op : BinOp} {t t2 : TypeId} {x y : Operand} {k : IntKind} {a b : Int} {v : Value} (hx : ev env x = some (.int k a)) (hy : ev env y = some (.int k b)) (hv : iop op k a b = some v)
  (hd : Nat.blt d s.n = true) (h : wpS P ops Lq s rest ((d, v) :: env) w) : wpS P ops Lq s (⟨some d, .binOp op t x y t2, ty, pos, aft, none⟩ :: rest) env w :=
 S.op (fun a ha => by
  have := run_iop (P := P) t x y hv w
  simp only [execOp, ha.ev hx, ha.ev hy]
  rw [Sem.run_bind, this]; rfl) hd h
theorem S.quo {t t2 : TypeId} {x y : Operand} {k : IntKind} {a b c : Int} (hx : ev env x = some (.int k a)) (hy : ev env y = some (.int k b)) (hb : b ≠ 0) (hr : k.wrap (a.tdiv b) = c)
  (hd : Nat.blt d s.n = true) (h : wpS P ops Lq s rest ((d, .int k c) :: env) w) : wpS P ops Lq s (⟨some d, .binOp .quo t x y t2, ty, pos, aft, none⟩ :: rest) env w :=
 S.op (fun a ha => by simp [execOp, ha.ev hx, ha.ev hy, eqGuard, binOp, Op.intDiv, hb, hr]) hd h
theorem S.rem {t t2 : TypeId} {x y : Operand} {k : IntKind} {a b c : Int} (hx : ev env x = some (.int k a)) (hy : ev env y = some (.int k b)) (hb : b ≠ 0) (hr : a.tmod b = c)
  (hd : Nat.blt d s.n = true) (h : wpS P ops Lq s rest ((d, .int k c) :: env) w) : wpS P ops Lq s (⟨some d, .binOp .rem t x y t2, ty, pos, aft, none⟩ :: rest) env w :=
 S.op (fun a ha => by simp [execOp, ha.ev hx, ha.ev hy, eqGuard, binOp, Op.intDiv, hb, hr]) hd h
theorem S.shl {t t2 : TypeId} {x y : Operand} {k yk : IntKind} {a b c : Int} (hx : ev env x = some (.int k a)) (hy : ev env y = some (.int yk b)) (hb : 0 ≤ b) (hr : k.wrap (a * 2 ^ min b.toNat k.bits) = c)
  (hd : Nat.blt d s.n = true) (h : wpS P ops Lq s rest ((d, .int k c) :: env) w) : wpS P ops Lq s (⟨some d, .binOp .shl t x y t2, ty, pos, aft, none⟩ :: rest) env w :=
 S.op (fun a ha => by
  have hb' : ¬ b < 0 := by omega
  simp [execOp, ha.ev hx, ha.ev hy, eqGuard, binOp, Op.shift, hb', hr]) hd h
theorem S.shr {t t2 : TypeId} {x y : Operand} {k yk : IntKind} {a b c : Int} (hx : ev env x = some (.int k a)) (hy : ev env y = some (.int yk b)) (hb : 0 ≤ b) (hr : a / 2 ^ min b.toNat k.bits = c)
  (hd : Nat.blt d s.n = true) (h : wpS P ops Lq s rest ((d, .int k c) :: env) w) : wpS P ops Lq s (⟨some d, .binOp .shr t x y t2, ty, pos, aft, none⟩ :: rest) env w :=
 S.op (fun a' ha => by
  have hs := shift_shr_any k yk a b hb
  simp [execOp, ha.ev hx, ha.ev hy, eqGuard, binOp, hs, hr]) hd h
theorem S.conv {x : Operand} {src dst : TypeId} {ds : TypeDesc} {k0 k : IntKind} {a c : Int} (hx : ev env x = some (.int k0 a)) (hs : P.underlying src = some ds) (ht : P.underlying dst = some (.int k)) (hr : k.wrap a = c)
  (hd : Nat.blt d s.n = true) (h : wpS P ops Lq s rest ((d, .int k c) :: env) w) : wpS P ops Lq s (⟨some d, .convert src dst x, ty, pos, aft, none⟩ :: rest) env w :=
 S.op (fun a ha => by simp [execOp, ha.ev hx, convert, run_underlying hs, run_underlying ht, Conv.intToInt, hr]) hd h
theorem S.nilc {x : Operand} {a : Addr} (hx : ev env x = some (.pointer (some a))) (hd : Nat.blt d s.n = true) (h : wpS P ops Lq s rest ((d, .pointer (some a)) :: env) w) : wpS P ops Lq s (⟨some d, .nilCheck x, ty, pos, aft, none⟩ :: rest) env w :=
 S.op (fun a' ha => by simp [execOp, ha.ev hx]) hd h
theorem S.fld {t : TypeId} {x : Operand} {f o b off : Nat} {fs : Array Field} {fd : Field} {sz : Nat} (hx : ev env x = some (.pointer (some ⟨b, off, none⟩))) (ht : P.underlying t = some (.struct fs)) (hf : fs[f]? = some fd) (ho : fd.offset = o)
  (hs : (P.info? fd.type).map (·.size) = some (sz + 1)) (hd : Nat.blt d s.n = true) (h : wpS P ops Lq s rest ((d, .pointer (some ⟨b, off + o, none⟩)) :: env) w) : wpS P ops Lq s (⟨some d, .fieldAddr t x f, ty, pos, aft, none⟩ :: rest) env w :=
 S.op (fun a' ha => by
  subst ho
  cases hq : P.info? fd.type with
  | none => simp [hq] at hs
  | some inf =>
   have hs' : inf.size = sz + 1 := by simpa [hq] using hs
   simp [execOp, ha.ev hx, Instr.fieldAt, Instr.sureAddr, run_underlying ht, hf, fieldPlace, sizeOf, typeInfo, hq, hs', addr_add]) hd h
theorem S.idxA {t e : TypeId} {x ix : Operand} {k : IntKind} {i : Int} {sz n b off : Nat} (hx : ev env x = some (.pointer (some ⟨b, off, none⟩))) (hi : ev env ix = some (.int k i))
  (ht : P.underlying t = some (.array n e)) (hs : (P.info? e).map (·.size) = some sz) (h0 : 0 ≤ i) (h1 : i < n) (hd : Nat.blt d s.n = true)
  (h : wpS P ops Lq s rest ((d, .pointer (some ⟨b, off + i.toNat * sz, none⟩)) :: env) w) : wpS P ops Lq s (⟨some d, .indexAddr t x ix, ty, pos, aft, none⟩ :: rest) env w := by
 refine S.op (fun a' ha => ?_) hd h
 cases hq : P.info? e with
 | none => simp [hq] at hs
 | some inf =>
  have hs' : inf.size = sz := by simpa [hq] using hs
  simp [execOp, ha.ev hx, ha.ev hi, Instr.indexAt, Instr.sureAddr, asIntOf, run_underlying ht, sizeOf, typeInfo, hq, hs', h0, h1, addr_add]
theorem S.add {t t2 : TypeId} {x y : Operand} {a b : Int} (hx : ev env x = some (.int .i64 a)) (hy : ev env y = some (.int .i64 b)) (hr : -9223372036854775808 ≤ a + b ∧ a + b ≤ 9223372036854775807)
  (hd : Nat.blt d s.n = true) (h : wpS P ops Lq s rest ((d, .int .i64 (a + b)) :: env) w) : wpS P ops Lq s (⟨some d, .binOp .add t x y t2, ty, pos, aft, none⟩ :: rest) env w :=
 S.bin hx hy (v := .int .i64 (a + b)) (by simp only [iop]; rw [IntWalk.i64_in _ hr]) hd h
theorem S.sub' {t t2 : TypeId} {x y : Operand} {a b : Int} (hx : ev env x = some (.int .i64 a)) (hy : ev env y = some (.int .i64 b)) (hr : -9223372036854775808 ≤ a - b ∧ a - b ≤ 9223372036854775807)
  (hd : Nat.blt d s.n = true) (h : wpS P ops Lq s rest ((d, .int .i64 (a - b)) :: env) w) : wpS P ops Lq s (⟨some d, .binOp .sub t x y t2, ty, pos, aft, none⟩ :: rest) env w :=
 S.bin hx hy (v := .int .i64 (a - b)) (by simp only [iop]; rw [IntWalk.i64_in _ hr]) hd h
theorem S.binw {op : BinOp} {t t2 : TypeId} {x y : Operand} {k : IntKind} {a b : Int} {v v' : Value} (hx : ev env x = some (.int k a)) (hy : ev env y = some (.int k b)) (hv : iop op k a b = some v) (he : v = v')
  (hd : Nat.blt d s.n = true) (h : wpS P ops Lq s rest ((d, v') :: env) w) : wpS P ops Lq s (⟨some d, .binOp op t x y t2, ty, pos, aft, none⟩ :: rest) env w :=
 S.bin hx hy (hv.trans (congrArg some he)) hd h
theorem S.lenv {t e : TypeId} {x : Operand} {n : Nat} {v : Value} (hx : ev env x = some v) (hR : ∃ a cap, v = .slice a n cap) (ht : P.underlying t = some (.slice e)) (hd : Nat.blt d s.n = true)
  (h : wpS P ops Lq s rest ((d, .int .i64 (n : Int)) :: env) w) : wpS P ops Lq s (⟨some d, .call ⟨.builtin .len, #[x], #[t]⟩, ty, pos, aft, none⟩ :: rest) env w := by
 obtain ⟨a, cap, rfl⟩ := hR
 exact S.op (fun a' ha => by simp [execOp, resolve, invoke, builtin, Builtin.len_, run_underlying ht, goInt, ha.ev hx]) hd h
theorem S.idx {t e : TypeId} {x ix : Operand} {k : IntKind} {i : Int} {sz n : Nat} {v : Value} {cs : List Value} (hx : ev env x = some v) (hi : ev env ix = some (.int k i)) (hR : Rd w sz v n cs)
  (ht : P.underlying t = some (.slice e)) (hs : (P.info? e).map (·.size) = some sz) (h0 : 0 ≤ i) (h1 : i < n) (hsz : 0 < sz) (hd : Nat.blt d s.n = true)
  (h : wpS P ops Lq s rest ((d, .pointer (some (el v (i.toNat * sz)))) :: env) w) : wpS P ops Lq s (⟨some d, .indexAddr t x ix, ty, pos, aft, none⟩ :: rest) env w := by
 obtain ⟨a, cap, rfl, hc1, hc2, hl, ha0, hat⟩ := hR
 have hpos : 0 < cs.length := by rw [hl]; exact Nat.mul_pos (by omega) hsz
 obtain ⟨b, off, rfl⟩ := ha0 hpos
 refine S.op (fun a' ha => ?_) hd h
 cases hq : P.info? e with
 | none => simp [hq] at hs
 | some inf =>
  have hs' : inf.size = sz := by simpa [hq] using hs
  simp [execOp, ha.ev hx, ha.ev hi, Instr.indexAt, asIntOf, run_underlying ht, sizeOf, typeInfo, hq, hs', h0, h1, addr_add, el, bs]
theorem S.load {t : TypeId} {x : Operand} {ad : Addr} {u : Value} {ds : TypeDesc} (hx : ev env x = some (.pointer (some ad))) (ht : P.underlying t = some ds) (hna : (match ds with | .struct _ | .array _ _ => true | _ => false) = false)
  (hc : w.cell? ad = some u) (hd : Nat.blt d s.n = true) (h : wpS P ops Lq s rest ((d, u) :: env) w) : wpS P ops Lq s (⟨some d, .load t x, ty, pos, aft, none⟩ :: rest) env w :=
 S.op (fun a' ha => by
  have hagg : (isAgg t).run P w = .ok false w := by
   unfold isAgg
   rw [Sem.run_bind, run_underlying ht w]
   cases ds <;> simp_all
  simp [execOp, ha.ev hx, Instr.loadAt, Instr.sureAddr, loadVar, hagg, hc]) hd h
end
end Go.Proofs.YtajklleiifhipaaGreatDoor.Sym
namespace Go.Proofs.YtajklleiifhipaaGreatDoor.Sym
open Go.RowKit
def Yld (P : Program) (ops : Array Oper) (s : St) (env : Env) (w : World) (o : Oper) (v : Value) : Prop := ∀ a, Sat s a env →
 (Region.wanted o (yielded ops a.tmps) = true ∧ (execOp a.eval o).run P w = .ok (.value v) w) ∨ (Region.wanted o (yielded ops a.tmps) = false ∧ v = undef)
def wpH (P : Program) (ops : Array Oper) (Q : Exit → Act → World → Prop) (S : World → Prop) (s : St) (fuel : Nat) (listed : Array Bool) (env : Env) (w : World) : Prop := ∀ a, Sat s a env → wpAnyH P .any ops (NoPanic Q) S fuel listed a w
def HQ (P : Program) (ops : Array Oper) (Q : Exit → Act → World → Prop) (S : World → Prop) (fuel : Nat) (listed : Array Bool) : Exit → Act → World → Prop
 | .normal, a, w => S w ∧ wpAnyH P .any ops (NoPanic Q) S fuel listed a w
 | e, a, w => NoPanic Q e a w
section
variable {P : Program} {ops : Array Oper} {Q : Exit → Act → World → Prop} {S : World → Prop} {s : St} {env : Env} {w : World} {rest : List Oper}
variable {d : Nat} {ty : TypeId} {pos : String} {aft : Array Edge} {fuel : Nat} {listed : Array Bool}
theorem Yld.of {op : Op} {v : Value} (h : ∀ a, Sat s a env → (execOp a.eval ⟨some d, op, ty, pos, aft, none⟩).run P w = .ok (.value v) w) : Yld P ops s env w ⟨some d, op, ty, pos, aft, none⟩ v := fun a ha => .inl ⟨by simp [Region.wanted], h a ha⟩
theorem C.held {id : Nat} {l : List Oper} (S : World → Prop) (hm : P.follows .mixedOrders = true) (h : ∀ w', Ext w w' → w'.heap = w.heap → wpH P l.toArray Q S s l.length (Array.replicate l.length false) env w') : wpC P (.region id l.toArray true) Q s env w :=
 fun a ha => wp_region_noPanic (wp_region_held (S := S) hm (h _ (Ext.refl w).drew rfl a ha))
theorem H.take {o : Oper} {v : Value} (i : Nat) (hi : ops[i]? = some o) (hdst : o.dst = some d) (hs : Region.noSelect ops = true) (hf : Region.free .any ops listed i = true) (hr : (Region.ready .any ops listed).contains i = true)
    (hS : S w) (hy : ∀ w', S w' → Yld P ops s env w' o v) (hd : Nat.blt d s.n = true) (h : wpH P ops Q S s fuel (listed.setIfInBounds i true) ((d, v) :: env) w) : wpH P ops Q S s (fuel + 1) listed env w := fun a ha => by
  have hq : YieldsIf P ops S o v a := by
    rcases hy w hS a ha with ⟨h1, _⟩ | ⟨h1, h2⟩
    · refine .inl ⟨h1, fun w' hw' => ?_⟩
      rcases hy w' hw' a ha with ⟨_, h3⟩ | ⟨h3, _⟩
      · exact h3
      rw [h1] at h3; cases h3
    exact .inr ⟨h1, h2⟩
  exact wpAnyH_take hi hs hf hr (fun c a w h => h) hq hS (hdst ▸ h _ (ha.put d v hd))
theorem upon_HQ {o : Oper} {a : Act} {K : Act → World → Prop} {r : Result Next} (h : o.upon P a K (HQ P ops Q S fuel listed) r) : o.upon P a K (NoPanic Q) r := by
 have hl : LetsOut (HQ P ops Q S fuel listed) → LetsOut (NoPanic Q) := fun ⟨a, w, h⟩ => ⟨a, w, h⟩
 cases r with
 | ok n w' =>
  cases n <;> simp only [Oper.upon] at h ⊢ <;> first | exact h | exact Calls.mono h fun e w'' he => (by cases e <;> first | exact he | exact hl he)
 | halt x w' => cases x <;> simp only [Oper.upon] at h ⊢ <;> exact h
theorem H.only {o : Oper} (i : Nat) (hi : ops[i]? = some o) (hr : Region.ready .any ops listed = [i]) (h : wpE P ops (HQ P ops Q S fuel (listed.setIfInBounds i true)) s [o] env w) : wpH P ops Q S s (fuel + 1) listed env w := fun a ha => by
  refine wpAnyH_all hr (by simp) fun j hj => ?_
  obtain rfl : j = i := by simpa using hj
  have h1 := h a ha
  unfold wpList at h1
  unfold wpOp
  simp only [hi]
  split
  · rename_i hw
    rw [if_pos hw] at h1
    rcases h1 with h1 | ⟨h1, h2⟩
    · exact .inl (upon_HQ h1)
    exact .inr ⟨h1, let ⟨a, w, h⟩ := h2; ⟨a, w, h⟩⟩
  rename_i hw
  rw [if_neg hw] at h1
  exact h1
theorem H.back (hS : S w) (h : wpH P ops Q S s fuel listed env w) : wpE P ops (HQ P ops Q S fuel listed) s [] env w := fun a ha => ⟨hS, h a ha⟩
theorem H.done (hr : Region.ready .any ops listed = []) (h : wpX .normal Q s env w) : wpH P ops Q S s fuel listed env w := fun a ha => wpAnyH_done hr (NoPanic.normal (h a ha)) _
theorem Y.mv {x : Operand} {v : Value} (hx : ev env x = some v)   : Yld P ops s env w ⟨some d, .move x, ty, pos, aft, none⟩ (v) :=
 Yld.of (fun a ha => by simp [execOp, ha.ev hx])
theorem Y.asg {x : Operand} {v : Value} (hx : ev env x = some v)   : Yld P ops s env w ⟨some d, .assign x, ty, pos, aft, none⟩ (v) :=
 Yld.of (fun a ha => by simp [execOp, ha.ev hx])
theorem Y.bin {op : BinOp} {t t2 : TypeId} {x y : Operand} {k : IntKind} {a b : Int} {v : Value} (hx : ev env x = some (.int k a)) (hy : ev env y = some (.int k b)) (hv : iop op k a b = some v)
      : Yld P ops s env w ⟨some d, .binOp op t x y t2, ty, pos, aft, none⟩ (v) :=
  Yld.of (fun a ha => by
    have := run_iop (P := P) t x y hv w
    simp only [execOp, ha.ev hx, ha.ev hy]
    rw [Sem.run_bind, this]; rfl)
theorem Y.conv {x : Operand} {src dst : TypeId} {ds : TypeDesc} {k0 k : IntKind} {a c : Int} (hx : ev env x = some (.int k0 a)) (hs : P.underlying src = some ds) (ht : P.underlying dst = some (.int k)) (hr : k.wrap a = c)
      : Yld P ops s env w ⟨some d, .convert src dst x, ty, pos, aft, none⟩ (.int k c) :=
  Yld.of (fun a ha => by simp [execOp, ha.ev hx, convert, run_underlying hs, run_underlying ht, Conv.intToInt, hr])
theorem Y.ext {x : Operand} {i : Nat} {vs : List Value} {v : Value} (hx : ev env x = some (.tuple vs.toArray)) (hv : vs[i]? = some v)   : Yld P ops s env w ⟨some d, .extract x i, ty, pos, aft, none⟩ (v) :=
 Yld.of (fun a ha => by simp [execOp, ha.ev hx, Instr.extract, hv])
theorem Y.nilc {x : Operand} {a : Addr} (hx : ev env x = some (.pointer (some a)))   : Yld P ops s env w ⟨some d, .nilCheck x, ty, pos, aft, none⟩ (.pointer (some a)) :=
 Yld.of (fun a' ha => by simp [execOp, ha.ev hx])
theorem Y.fld {t : TypeId} {x : Operand} {f o b off : Nat} {fs : Array Field} {fd : Field} {sz : Nat} (hx : ev env x = some (.pointer (some ⟨b, off, none⟩))) (ht : P.underlying t = some (.struct fs)) (hf : fs[f]? = some fd) (ho : fd.offset = o)
  (hs : (P.info? fd.type).map (·.size) = some (sz + 1))   : Yld P ops s env w ⟨some d, .fieldAddr t x f, ty, pos, aft, none⟩ (.pointer (some ⟨b, off + o, none⟩)) :=
 Yld.of (fun a' ha => by
  subst ho
  cases hq : P.info? fd.type with
  | none => simp [hq] at hs
  | some inf =>
   have hs' : inf.size = sz + 1 := by simpa [hq] using hs
   simp [execOp, ha.ev hx, Instr.fieldAt, Instr.sureAddr, run_underlying ht, hf, fieldPlace, sizeOf, typeInfo, hq, hs', addr_add])
theorem Y.loadA {t : TypeId} {x : Operand} {b off : Nat} {cs : List Value} {ds : TypeDesc} (hx : ev env x = some (.pointer (some ⟨b, off, none⟩))) (ht : P.underlying t = some ds) (hna : (match ds with | .struct _ | .array _ _ => true | _ => false) = true)
  (hs : (P.info? t).map (·.size) = some cs.length) (hc : At w b off cs)   : Yld P ops s env w ⟨some d, .load t x, ty, pos, aft, none⟩ (.agg cs.toArray) :=
 Yld.of (fun a' ha => by
  have hagg : (isAgg t).run P w = .ok true w := by
   unfold isAgg
   rw [Sem.run_bind, run_underlying ht w]
   cases ds <;> simp_all
  have hl : (loadCells ⟨b, off, none⟩ cs.length).run P w = .ok cs.toArray w := run_loadCells_list (P := P) w ⟨b, off, none⟩ cs (fun j v hv => by rw [addr_add]; exact hc j v hv)
  cases hq : P.info? t with
  | none => simp [hq] at hs
  | some inf =>
   have hs' : inf.size = cs.length := by simpa [hq] using hs
   simp [execOp, ha.ev hx, Instr.loadAt, Instr.sureAddr, loadVar, hagg, sizeOf, typeInfo, hq, hs', hl])
theorem Y.build {t : TypeId} {xs : List (Nat × Operand)} {vs : List (Nat × Value)} {cs : List Value} (hx : evp env xs = some vs) (hb : (Instr.build t vs.toArray).run P w = .ok (.agg cs.toArray) w)
      : Yld P ops s env w ⟨some d, .build t xs.toArray, ty, pos, aft, none⟩ (.agg cs.toArray) :=
  Yld.of (fun a ha => by
    have e : (xs.toArray.map fun (i, x) => (i, a.eval x)) = vs.toArray := by rw [List.map_toArray, ← ha.evp hx]
    simp only [execOp]
    rw [e, Sem.run_bind, hb]; rfl)
theorem Y.idx {t e : TypeId} {x ix : Operand} {k : IntKind} {i : Int} {sz n : Nat} {v : Value} {cs : List Value} (hx : ev env x = some v) (hi : ev env ix = some (.int k i)) (hR : Rd w sz v n cs)
    (ht : P.underlying t = some (.slice e)) (hs : (P.info? e).map (·.size) = some sz) (h0 : 0 ≤ i) (h1 : i < n) (hsz : 0 < sz) 
     : Yld P ops s env w ⟨some d, .indexAddr t x ix, ty, pos, aft, none⟩ (.pointer (some (el v (i.toNat * sz)))) := by
  obtain ⟨a, cap, rfl, hc1, hc2, hl, ha0, hat⟩ := hR
  have hpos : 0 < cs.length := by rw [hl]; exact Nat.mul_pos (by omega) hsz
  obtain ⟨b, off, rfl⟩ := ha0 hpos
  refine Yld.of fun a' ha => ?_
  cases hq : P.info? e with
  | none => simp [hq] at hs
  | some inf =>
    have hs' : inf.size = sz := by simpa [hq] using hs
    simp [execOp, ha.ev hx, ha.ev hi, Instr.indexAt, asIntOf, run_underlying ht, sizeOf, typeInfo, hq, hs', h0, h1, addr_add, el, bs]
theorem Y.load {t : TypeId} {x : Operand} {ad : Addr} {u : Value} {ds : TypeDesc} (hx : ev env x = some (.pointer (some ad))) (ht : P.underlying t = some ds) (hna : (match ds with | .struct _ | .array _ _ => true | _ => false) = false)
  (hc : w.cell? ad = some u)   : Yld P ops s env w ⟨some d, .load t x, ty, pos, aft, none⟩ (u) :=
 Yld.of (fun a' ha => by
  have hagg : (isAgg t).run P w = .ok false w := by
   unfold isAgg
   rw [Sem.run_bind, run_underlying ht w]
   cases ds <;> simp_all
  simp [execOp, ha.ev hx, Instr.loadAt, Instr.sureAddr, loadVar, hagg, hc])
theorem Y.add {t t2 : TypeId} {x y : Operand} {a b : Int} (hx : ev env x = some (.int .i64 a)) (hy : ev env y = some (.int .i64 b)) (hr : -9223372036854775808 ≤ a + b ∧ a + b ≤ 9223372036854775807)
      : Yld P ops s env w ⟨some d, .binOp .add t x y t2, ty, pos, aft, none⟩ (.int .i64 (a + b)) :=
  Y.bin hx hy (v := .int .i64 (a + b)) (by simp only [iop]; rw [IntWalk.i64_in _ hr])
theorem Y.sub' {t t2 : TypeId} {x y : Operand} {a b : Int} (hx : ev env x = some (.int .i64 a)) (hy : ev env y = some (.int .i64 b)) (hr : -9223372036854775808 ≤ a - b ∧ a - b ≤ 9223372036854775807)
      : Yld P ops s env w ⟨some d, .binOp .sub t x y t2, ty, pos, aft, none⟩ (.int .i64 (a - b)) :=
  Y.bin hx hy (v := .int .i64 (a - b)) (by simp only [iop]; rw [IntWalk.i64_in _ hr])
theorem Y.mul {t t2 : TypeId} {x y : Operand} {a b : Int} (hx : ev env x = some (.int .i64 a)) (hy : ev env y = some (.int .i64 b)) (hr : -9223372036854775808 ≤ a * b ∧ a * b ≤ 9223372036854775807)
      : Yld P ops s env w ⟨some d, .binOp .mul t x y t2, ty, pos, aft, none⟩ (.int .i64 (a * b)) :=
  Y.bin hx hy (v := .int .i64 (a * b)) (by simp only [iop]; rw [IntWalk.i64_in _ hr])
end
end Go.Proofs.YtajklleiifhipaaGreatDoor.Sym
namespace Go.Proofs.YtajklleiifhipaaGreatDoor.Sym
open Go.RowKit
structure Rg where
 fp : Nat → Prop
 ok : World → Prop
 keep : ∀ {w w' : World}, (∀ k, fp k → w'.heap[k]? = w.heap[k]?) → ok w → ok w'
 live : ∀ {w : World}, ok w → ∀ k, fp k → k < w.heap.size
structure FrS (S : Nat → Prop) (w w' : World) : Prop where
 os : w'.os = w.os
 tape : w'.tape = w.tape
 output : w'.output = w.output
 size : w.heap.size ≤ w'.heap.size
 block : ∀ k, k < w.heap.size → ¬ S k → w'.heap[k]? = w.heap[k]?
abbrev Nn : Nat → Prop := fun _ => False
theorem FrS.refl (S : Nat → Prop) (w : World) : FrS S w w := ⟨rfl, rfl, rfl, Nat.le_refl _, fun _ _ _ => rfl⟩
theorem FrS.ext {w w' : World} (h : FrS Nn w w') : Ext w w' := ⟨h.os, h.tape, h.output, h.size, fun k hk => h.block k hk (fun h => h)⟩
theorem FrS.ofExt {S : Nat → Prop} {w w' : World} (h : Ext w w') : FrS S w w' := ⟨h.os, h.tape, h.output, h.size, fun k hk _ => h.block k hk⟩
theorem FrS.ofGrown {S : Nat → Prop} {w w' : World} {r : Option Nat} (h : w.grownBy w' r) (hr : ∀ k, r = some k → S k) : FrS S w w' := ⟨h.os, h.tape, h.output, h.size, fun k hk hS => h.block k hk (fun e => hS (hr k e.symm))⟩
theorem FrS.step {S T : Nat → Prop} {a w w' : World} (h : FrS S a w) (k : FrS T w w') (hT : ∀ x, T x → S x ∨ a.heap.size ≤ x) : FrS S a w' :=
 ⟨k.os.trans h.os, k.tape.trans h.tape, k.output.trans h.output, Nat.le_trans h.size k.size, fun i hi hS => (k.block i (Nat.lt_of_lt_of_le hi h.size) (fun ht => (hT i ht).elim hS (by omega))).trans (h.block i hi hS)⟩
structure Sep (w : World) (rs : List Rg) : Prop where
 ok : ∀ (i : Nat) r, rs[i]? = some r → r.ok w
 apart : ∀ (i j : Nat) r q, rs[i]? = some r → rs[j]? = some q → i ≠ j → ∀ k, r.fp k → ¬ q.fp k
structure M (w0 : World) (S : Nat → Prop) (w : World) (rs : List Rg) : Prop where
 sep : Sep w rs
 mine : ∀ (i : Nat) r, rs[i]? = some r → ∀ k, r.fp k → S k ∨ w0.heap.size ≤ k
 fr : FrS S w0 w
def fpU (rs : List Rg) (k : Nat) : Prop := ∃ (i : Nat) (r : Rg), rs[i]? = some r ∧ r.fp k
section
variable {w0 w w' w'' : World} {S T : Nat → Prop} {rs ns : List Rg} {r q : Rg}
theorem M.ok (h : M w0 S w rs) {i : Nat} (hi : rs[i]? = some r) : r.ok w := h.sep.ok i r hi
theorem M.start (w : World) : M w Nn w [] := ⟨⟨fun i r h => by simp at h, fun i j r q h => by simp at h⟩, fun i r h => by simp at h, FrS.refl _ _⟩
theorem M.startS (h : Sep w rs) : M w (fpU rs) w rs := ⟨h, fun i r hi k hk => .inl ⟨i, r, hi, hk⟩, FrS.refl _ _⟩
theorem M.toExt (h : M w0 Nn w rs) : Ext w0 w := h.fr.ext
theorem M.size (h : M w0 S w rs) : w0.heap.size ≤ w.heap.size := h.fr.size
theorem M.ext (h : M w0 S w rs) (x : Ext w w') : M w0 S w' rs where
 sep := ⟨fun i r hi => r.keep (fun k hk => x.block k (r.live (h.ok hi) k hk)) (h.ok hi), h.sep.apart⟩
 mine := h.mine
 fr := h.fr.step (FrS.ofExt (S := Nn) x) (fun _ h => h.elim)
theorem M.upd (h : M w0 S w rs) (i : Nat) (hi : rs[i]? = some r) (g : FrS r.fp w w') (hr : q.ok w') (hq : ∀ k, q.fp k → r.fp k ∨ w.heap.size ≤ k) : M w0 S w' (rs.set i q) := by
  have hlt : i < rs.length := (List.getElem?_eq_some_iff.1 hi).1
  have other : ∀ j p, j ≠ i → rs[j]? = some p → p.ok w' := fun j p hne hj => p.keep (fun k hk => g.block k (p.live (h.ok hj) k hk) (fun hrk => h.sep.apart j i p r hj hi hne k hk hrk)) (h.ok hj)
  have at_ : ∀ j p, (rs.set i q)[j]? = some p → (j = i ∧ p = q) ∨ (j ≠ i ∧ rs[j]? = some p) := fun j p hj => by
    by_cases e : i = j
    · subst e; rw [List.getElem?_set_self hlt] at hj; exact .inl ⟨rfl, (Option.some.inj hj).symm⟩
    rw [List.getElem?_set_ne e] at hj; exact .inr ⟨fun h => e h.symm, hj⟩
  refine ⟨⟨fun j p hj => ?_, fun a b p p' ha hb hne k hk hk' => ?_⟩, fun j p hj k hk => ?_, h.fr.step g (fun x hx => h.mine i r hi x hx)⟩
  · rcases at_ j p hj with ⟨_, rfl⟩ | ⟨hne, hj⟩
    · exact hr
    exact other j p hne hj
  · rcases at_ a p ha with ⟨rfl, rfl⟩ | ⟨na, ha⟩
    · rcases at_ b p' hb with ⟨rfl, rfl⟩ | ⟨nb, hb⟩
      · exact hne rfl
      rcases hq k hk with h1 | h1
      · exact h.sep.apart a b r p' hi hb hne k h1 hk'
      have := p'.live (h.ok hb) k hk'; omega
    rcases at_ b p' hb with ⟨hbe, hpe⟩ | ⟨nb, hb⟩
    · rw [hpe] at hk'
      rcases hq k hk' with h1 | h1
      · exact h.sep.apart a i p r ha hi na k hk h1
      have := p.live (h.ok ha) k hk; omega
    exact h.sep.apart a b p p' ha hb hne k hk hk'
  rcases at_ j p hj with ⟨_, rfl⟩ | ⟨_, hj⟩
  · rcases hq k hk with h1 | h1
    · exact h.mine i r hi k h1
    have := h.fr.size; exact .inr (by omega)
  exact h.mine j p hj k hk
theorem getElem?_app {α : Type} {l m : List α} {i : Nat} {x : α} (h : (l ++ m)[i]? = some x) : (i < l.length ∧ l[i]? = some x) ∨ (l.length ≤ i ∧ m[i - l.length]? = some x) := by
 by_cases e : i < l.length
 · rw [List.getElem?_append_left e] at h; exact .inl ⟨e, h⟩
 rw [List.getElem?_append_right (by omega)] at h; exact .inr ⟨by omega, h⟩
theorem M.call (h : M w0 S w rs) (k : M w Nn w' ns) : M w0 S w' (rs ++ ns) := by
  have h' := h.ext k.toExt
  have new : ∀ (i : Nat) r, ns[i]? = some r → ∀ x, r.fp x → w.heap.size ≤ x := fun i r hi x hx => (k.mine i r hi x hx).elim (fun h => h.elim) id
  refine ⟨⟨fun i r hi => ?_, fun i j r q hi hj hne x hx hq => ?_⟩, fun i r hi x hx => ?_, h'.fr⟩
  · rcases getElem?_app hi with ⟨_, hi⟩ | ⟨_, hi⟩
    · exact h'.ok hi
    exact k.ok hi
  · rcases getElem?_app hi with ⟨li, hi⟩ | ⟨li, hi⟩ <;> rcases getElem?_app hj with ⟨lj, hj⟩ | ⟨lj, hj⟩
    · exact h.sep.apart i j r q hi hj hne x hx hq
    · have := r.live (h.ok hi) x hx; have := new _ q hj x hq; omega
    · have := q.live (h.ok hj) x hq; have := new _ r hi x hx; omega
    exact k.sep.apart _ _ r q hi hj (by omega) x hx hq
  rcases getElem?_app hi with ⟨_, hi⟩ | ⟨_, hi⟩
  · exact h.mine i r hi x hx
  have := new _ r hi x hx; have := h.fr.size; exact .inr (by omega)
theorem M.ofNew (x : Ext w w') (hr : r.ok w') (hf : ∀ k, r.fp k → w.heap.size ≤ k) : M w Nn w' [r] := by
 have one : ∀ (i : Nat) p, [r][i]? = some p → i = 0 ∧ p = r := fun i p hi => by
  cases i with
  | zero => exact ⟨rfl, by simpa using hi.symm⟩
  | succ i => simp at hi
 exact ⟨⟨fun i p hi => (one i p hi).2 ▸ hr, fun i j p p' hi hj hne => (hne ((one i p hi).1.trans (one j p' hj).1.symm)).elim⟩, fun i p hi k hk => .inr (hf k ((one i p hi).2 ▸ hk)), FrS.ofExt x⟩
theorem M.ofExt (x : Ext w w') : M w Nn w' [] := ⟨⟨fun i r h => by simp at h, fun i j r q h => by simp at h⟩, fun i r h => by simp at h, FrS.ofExt x⟩
theorem M.new (h : M w0 S w rs) (x : Ext w w') (hr : r.ok w') (hf : ∀ k, r.fp k → w.heap.size ≤ k) : M w0 S w' (rs ++ [r]) := h.call (M.ofNew x hr hf)
theorem M.pick (h : M w0 S w rs) (is : List Nat) (hn : is.Nodup) : M w0 S w (is.filterMap (rs[·]?)) := by
  have key : ∀ (is : List Nat) (i : Nat) r, (is.filterMap (rs[·]?))[i]? = some r → ∃ (a j : Nat), is[a]? = some j ∧ rs[j]? = some r ∧ ((is.take a).filterMap (rs[·]?)).length = i := by
    intro is
    induction is with
    | nil => intro i r hi; simp at hi
    | cons b is ih =>
      intro i r hi
      rw [List.filterMap_cons] at hi
      cases hb : rs[b]? with
      | none =>
        rw [hb] at hi
        obtain ⟨a, j, h1, h2, h3⟩ := ih i r hi
        exact ⟨a + 1, j, by simpa using h1, h2, by simpa [List.take_succ_cons, List.filterMap_cons, hb] using h3⟩
      | some p =>
        rw [hb] at hi
        cases i with
        | zero => exact ⟨0, b, rfl, by rw [hb]; simpa using hi, rfl⟩
        | succ i =>
          obtain ⟨a, j, h1, h2, h3⟩ := ih i r (by simpa using hi)
          exact ⟨a + 1, j, by simpa using h1, h2, by simpa [List.take_succ_cons, List.filterMap_cons, hb] using h3⟩
  refine ⟨⟨fun i r hi => ?_, fun i j r q hi hj hne => ?_⟩, fun i r hi => ?_, h.fr⟩
  · obtain ⟨a, j, _, h2, _⟩ := key is i r hi; exact h.ok h2
  · obtain ⟨a, x, h1, h2, h3⟩ := key is i r hi
    obtain ⟨b, y, g1, g2, g3⟩ := key is j q hj
    refine h.sep.apart x y r q h2 g2 fun e => ?_
    subst e
    have hab : a = b := by
      obtain ⟨la, ea⟩ := List.getElem?_eq_some_iff.1 h1
      obtain ⟨lb, eb⟩ := List.getElem?_eq_some_iff.1 g1
      rcases Nat.lt_trichotomy a b with hl | hl | hl
      · exact (List.pairwise_iff_getElem.1 hn a b la lb hl (ea.trans eb.symm)).elim
      · exact hl
      exact (List.pairwise_iff_getElem.1 hn b a lb la hl (eb.trans ea.symm)).elim
    subst hab
    exact hne (h3.symm.trans g3)
  obtain ⟨a, j, _, h2, _⟩ := key is i r hi; exact h.mine j r h2
theorem M.weak (h : M w0 S w rs) (i : Nat) (hi : rs[i]? = some r) (hq : q.ok w) (hf : ∀ k, q.fp k → r.fp k) : M w0 S w (rs.set i q) := h.upd i hi (FrS.refl _ _) hq (fun k hk => .inl (hf k hk))
def repl : List Rg → List Nat → List Rg → List Rg
 | rs, i :: is, o :: os => repl (rs.set i o) is os
 | rs, _, os => rs ++ os
theorem repl_len (rs : List Rg) : ∀ (is : List Nat) (os : List Rg), is.length ≤ os.length → ∀ (i : Nat) r, (repl rs is os)[i]? = some r →
    (∃ a : Nat, is[a]? = some i ∧ os[a]? = some r ∧ ∀ b : Nat, a < b → is[b]? ≠ some i) ∨ (i ∉ is ∧ rs[i]? = some r) ∨ (rs.length ≤ i ∧ os[i - rs.length + is.length]? = some r) := by
  intro is
  induction is generalizing rs with
  | nil =>
    intro os _ i r hi
    have hi : (rs ++ os)[i]? = some r := by cases os <;> exact hi
    rcases getElem?_app hi with ⟨_, h⟩ | ⟨h1, h⟩
    · exact .inr (.inl ⟨by simp, h⟩)
    exact .inr (.inr ⟨h1, by simpa using h⟩)
  | cons j is ih =>
    intro os hl i r hi
    cases os with
    | nil => simp at hl
    | cons o os =>
      rcases ih (rs.set j o) os (by simpa using hl) i r hi with ⟨a, h1, h2, h3⟩ | ⟨h1, h2⟩ | ⟨h1, h2⟩
      · refine .inl ⟨a + 1, by simpa using h1, by simpa using h2, fun b hb => ?_⟩
        cases b with
        | zero => omega
        | succ b => simpa using h3 b (by omega)
      · by_cases e : j = i
        · subst e
          have hlt : j < rs.length := by have := (List.getElem?_eq_some_iff.1 h2).1; simpa using this
          rw [List.getElem?_set_self hlt] at h2
          refine .inl ⟨0, rfl, by simpa using h2, fun b hb hj => ?_⟩
          cases b with
          | zero => omega
          | succ b => exact h1 (List.mem_of_getElem? (by simpa using hj))
        rw [List.getElem?_set_ne e] at h2
        exact .inr (.inl ⟨by simp [h1]; exact fun h => e h.symm, h2⟩)
      refine .inr (.inr ⟨by simpa using h1, ?_⟩)
      rw [List.length_set] at h2
      rw [List.length_cons, ← Nat.add_assoc]; simpa using h2
theorem M.callM {ins outs : List Rg} (h : M w0 S w rs) (is : List Nat) (hn : is.Nodup) (hin : is.filterMap (rs[·]?) = ins) (hlen : is.length = ins.length) (hl : is.length ≤ outs.length) (k : M w (fpU ins) w' outs) : M w0 S w' (repl rs is outs) := by
  have hsome : ∀ j, j ∈ is → ∃ r, rs[j]? = some r := by
    intro j hj
    cases hq : rs[j]? with
    | some r => exact ⟨r, rfl⟩
    | none =>
      exfalso
      have : (is.filterMap (rs[·]?)).length < is.length := by
        clear hin hlen hl hn
        induction is with
        | nil => simp at hj
        | cons b is ih =>
          rw [List.filterMap_cons]
          rcases List.mem_cons.1 hj with rfl | hj
          · rw [hq]; have := List.length_filterMap_le (rs[·]?) is; simp only [List.length_cons]; omega
          have := ih hj; cases rs[b]? <;> simp only [List.length_cons] <;> omega
      rw [hin] at this; omega
  have hfp : ∀ x, fpU ins x → ∃ j r, j ∈ is ∧ rs[j]? = some r ∧ r.fp x := by
    rintro x ⟨a, r, ha, hx⟩
    subst hin
    obtain ⟨j, hj, hr⟩ := List.mem_filterMap.1 (List.mem_of_getElem? ha)
    exact ⟨j, r, hj, hr, hx⟩
  have rest : ∀ (i : Nat) r, i ∉ is → rs[i]? = some r → ∀ x, r.fp x → ¬ fpU ins x ∧ x < w.heap.size := fun i r hi hr x hx => ⟨fun hf => by
    obtain ⟨j, q, hj, hq, hxq⟩ := hfp x hf
    exact h.sep.apart i j r q hr hq (fun e => hi (e ▸ hj)) x hx hxq, r.live (h.ok hr) x hx⟩
  have keep : ∀ (i : Nat) r, i ∉ is → rs[i]? = some r → r.ok w' := fun i r hi hr => r.keep (fun x hx => k.fr.block x (rest i r hi hr x hx).2 (rest i r hi hr x hx).1) (h.ok hr)
  have outfp : ∀ (a : Nat) q, outs[a]? = some q → ∀ x, q.fp x → fpU ins x ∨ w.heap.size ≤ x := fun a q hq x hx => k.mine a q hq x hx
  have fpS : ∀ x, fpU ins x → S x ∨ w0.heap.size ≤ x := fun x hx => by
    obtain ⟨j, q, _, hq, hxq⟩ := hfp x hx; exact h.mine j q hq x hxq
  have at_ : ∀ (i : Nat) r, (repl rs is outs)[i]? = some r → (∃ a : Nat, outs[a]? = some r ∧ ((is[a]? = some i) ∨ (is.length ≤ a ∧ i = rs.length + (a - is.length)))) ∨ (i ∉ is ∧ rs[i]? = some r) := fun i r hi => by
    rcases repl_len rs is outs hl i r hi with ⟨a, h1, h2, _⟩ | h1 | ⟨h1, h2⟩
    · exact .inl ⟨a, h2, .inl h1⟩
    · exact .inr h1
    exact .inl ⟨_, h2, .inr ⟨by omega, by omega⟩⟩
  refine ⟨⟨fun i r hi => ?_, fun i j r q hi hj hne x hx hq => ?_⟩, fun i r hi x hx => ?_, h.fr.step k.fr fpS⟩
  · rcases at_ i r hi with ⟨a, h1, _⟩ | ⟨h1, h2⟩
    · exact k.ok h1
    exact keep i r h1 h2
  · rcases at_ i r hi with ⟨a, h1, h1'⟩ | ⟨h1, h2⟩ <;> rcases at_ j q hj with ⟨b, g1, g1'⟩ | ⟨g1, g2⟩
    · refine k.sep.apart a b r q h1 g1 (fun e => ?_) x hx hq
      subst e
      rcases h1' with h1' | ⟨h1', h2'⟩ <;> rcases g1' with g1' | ⟨g1', g2'⟩
      · rw [h1'] at g1'; exact hne (Option.some.inj g1')
      · have := (List.getElem?_eq_some_iff.1 h1').1; omega
      · have := (List.getElem?_eq_some_iff.1 g1').1; omega
      exact hne (h2'.trans g2'.symm)
    · have := rest j q g1 g2 x hq
      rcases outfp a r h1 x hx with h3 | h3
      · exact this.1 h3
      omega
    · have := rest i r h1 h2 x hx
      rcases outfp b q g1 x hq with h3 | h3
      · exact this.1 h3
      omega
    exact h.sep.apart i j r q h2 g2 hne x hx hq
  rcases at_ i r hi with ⟨a, h1, _⟩ | ⟨h1, h2⟩
  · rcases outfp a r h1 x hx with h3 | h3
    · exact fpS x h3
    have := h.fr.size; exact .inr (by omega)
  exact h.mine i r h2 x hx
end
section
variable {α : Type}
def Rg.sl (enc : α → Value) (e : TypeId) (v : Value) (l : List α) : Rg where
 fp k := v.ownBlock = some k
 ok w := OwnL enc w 0 e v l
 keep {w w'} hk h := by
  obtain ⟨hl, h2⟩ := h
  refine ⟨hl, ?_⟩
  rcases h2 with h2 | ⟨g, cap, cur, hv, hb, hg, r⟩
  · exact .inl h2
  exact .inr ⟨g, cap, cur, hv, hb, by rw [hk g (by rw [hv]; rfl)]; exact hg, r⟩
 live h k hk := (World.ownsRow.lt h k hk).2
def Rg.slF (enc : α → List Value) (sz : Nat) (e : TypeId) (v : Value) (l : List α) : Rg where
 fp k := v.ownBlock = some k
 ok w := OwnF enc sz w 0 e v l
 keep {w w'} hk h := by
  obtain ⟨h0, hl, h2⟩ := h
  refine ⟨h0, hl, ?_⟩
  rcases h2 with h2 | ⟨g, cap, cur, hv, hb, hg, r⟩
  · exact .inl h2
  exact .inr ⟨g, cap, cur, hv, hb, by rw [hk g (by rw [hv]; rfl)]; exact hg, r⟩
 live h k hk := (World.ownsRow.lt h.2 k hk).2
def Rg.blk (b : Nat) (T : TypeId) (cs : List Value) : Rg where
 fp k := k = b
 ok w := Blk w b T cs.toArray
 keep {w w'} hk h := by show w'.heap[b]? = _; rw [hk b rfl]; exact h
 live h k hk := by subst hk; exact h.lt
def Rg.mp (r : Nat) (kk : IntKind) (enc : α → Value) (m : List (Int × α)) : Rg where
 fp k := k = r
 ok w := Mp w r kk enc m
 keep {w w'} hk h := by obtain ⟨es, c, h1, h2⟩ := h; exact ⟨es, c, by rw [hk r rfl]; exact h1, h2⟩
 live h k hk := by subst hk; exact h.lt
def Rg.rd (sz : Nat) (v : Value) (n : Nat) (cs : List Value) : Rg where
 fp k := cs ≠ [] ∧ k = (bs v).1
 ok w := Rd w sz v n cs
 keep {w w'} hk h := by
  rcases List.eq_nil_or_concat cs with rfl | ⟨_, _, hc⟩
  · exact h.nil_other
  obtain ⟨a, cap, h1, h2, h3, h4, h5, h6⟩ := h
  refine ⟨a, cap, h1, h2, h3, h4, h5, fun j u hu => ?_⟩
  have := h6 j u hu
  rw [World.cell?_of_block (w := w) (hk _ ⟨by rw [hc]; simp, rfl⟩)]; exact this
 live h k hk := by
  obtain ⟨h1, rfl⟩ := hk
  exact h.lt (by cases cs with | nil => exact (h1 rfl).elim | cons _ _ => simp)
variable {w0 w w' : World} {S : Nat → Prop} {rs : List Rg} {enc : α → Value} {e : TypeId} {v : Value} {l : List α}
theorem M.own (h : M w0 S w rs) (i : Nat) (hi : rs[i]? = some (Rg.sl enc e v l)) : OwnL enc w 0 e v l := h.ok hi
theorem M.sl (h : M w0 S w rs) (i : Nat) (hi : rs[i]? = some (Rg.sl enc e v l)) : RdL enc w v l := (h.own i hi).rd
theorem M.ownF {enc : α → List Value} {sz : Nat} (h : M w0 S w rs) (i : Nat) (hi : rs[i]? = some (Rg.slF enc sz e v l)) : OwnF enc sz w 0 e v l := h.ok hi
theorem M.slF {enc : α → List Value} {sz : Nat} (h : M w0 S w rs) (i : Nat) (hi : rs[i]? = some (Rg.slF enc sz e v l)) : RdF enc sz w v l := (h.ownF i hi).rd
theorem M.blk {b : Nat} {T : TypeId} {cs : List Value} (h : M w0 S w rs) (i : Nat) (hi : rs[i]? = some (Rg.blk b T cs)) : Blk w b T cs.toArray := h.ok hi
theorem M.bcell {b : Nat} {T : TypeId} {cs : List Value} {off : Nat} {u : Value} (h : M w0 S w rs) (i : Nat) (hi : rs[i]? = some (Rg.blk b T cs)) (hu : cs[off]? = some u) : w.cell? ⟨b, off, none⟩ = some u := by
 rw [(h.blk i hi).cell]; simpa using hu
theorem M.bat {b : Nat} {T : TypeId} {cs : List Value} (h : M w0 S w rs) (i : Nat) (hi : rs[i]? = some (Rg.blk b T cs)) : At w b 0 cs := (h.blk i hi).at 0 cs (fun j u hu => by simpa using hu)
theorem M.mp {r : Nat} {kk : IntKind} {m : List (Int × α)} (h : M w0 S w rs) (i : Nat) (hi : rs[i]? = some (Rg.mp r kk enc m)) : Mp w r kk enc m := h.ok hi
def Off (S : Nat → Prop) (v : Value) (l : List α) : Prop := l = [] ∨ ¬ S (bs v).1
theorem FrS.rd {sz n : Nat} {cs : List Value} (k : FrS S w w') (h : Rd w sz v n cs) (ho : Off S v cs) : Rd w' sz v n cs := by
 rcases ho with rfl | ho
 · exact h.nil_other
 obtain ⟨a, cap, h1, h2, h3, h4, h5, h6⟩ := h
 refine ⟨a, cap, h1, h2, h3, h4, h5, fun j u hu => ?_⟩
 have := h6 j u hu
 rw [World.cell?_of_block (w := w) (k.block _ (World.block_lt_of_cell? w _ this) ho)]; exact this
theorem M.arg (h : M w0 S w rs) (hR : RdL enc w0 v l) (ho : Off S v l) : RdL enc w v l := h.fr.rd hR (by rcases ho with rfl | ho; exact .inl rfl; exact .inr ho)
theorem M.arg0 (h : M w0 Nn w rs) (hR : RdL enc w0 v l) : RdL enc w v l := hR.ext h.toExt
theorem Rg.sl_new {enc : α → Value} (h : OwnL enc w' w.heap.size e v l) : (Rg.sl enc e v l).ok w' ∧ ∀ k, (Rg.sl enc e v l).fp k → w.heap.size ≤ k := ⟨Own.lower h (Nat.zero_le _), fun k hk => (World.ownsRow.lt h k hk).1⟩
theorem M.nil (h : M w0 S w rs) (enc : α → Value) (e : TypeId) : M w0 S w (rs ++ [Rg.sl enc e (.slice none 0 0) []]) := h.new (Ext.refl w) (OwnL.nil enc w 0 e) (fun k hk => by cases hk)
theorem M.nilF (h : M w0 S w rs) (enc : α → List Value) (sz : Nat) (e : TypeId) : M w0 S w (rs ++ [Rg.slF enc sz e (.slice none 0 0) []]) := h.new (Ext.refl w) (OwnF.nil enc sz w 0 e) (fun k hk => by cases hk)
theorem M.grow {enc : α → Value} {v' : Value} {l' : List α} (h : M w0 S w rs) (i : Nat) (hi : rs[i]? = some (Rg.sl enc e v l)) (ho : OwnL enc w' 0 e v' l') (g : w.grownBy w' v.ownBlock) (hl : Lies w v v') : M w0 S w' (rs.set i (Rg.sl enc e v' l')) :=
 h.upd i hi (FrS.ofGrown g (fun k hk => hk)) ho (fun k hk => by
  rcases hl with hl | ⟨g, h1, h2⟩
  · exact .inl (hl.symm.trans hk)
  have : v'.ownBlock = some k := hk
  rw [h1] at this; cases this; exact .inr h2)
theorem M.growF {enc : α → List Value} {sz : Nat} {v' : Value} {l' : List α} (h : M w0 S w rs) (i : Nat) (hi : rs[i]? = some (Rg.slF enc sz e v l)) (ho : OwnF enc sz w' 0 e v' l') (g : w.grownBy w' v.ownBlock) (hl : Lies w v v') : M w0 S w' (rs.set i (Rg.slF enc sz e v' l')) :=
 h.upd i hi (FrS.ofGrown g (fun k hk => hk)) ho (fun k hk => by
  rcases hl with hl | ⟨g, h1, h2⟩
  · exact .inl (hl.symm.trans hk)
  have : v'.ownBlock = some k := hk
  rw [h1] at this; cases this; exact .inr h2)
theorem M.setL {enc : α → Value} (h : M w0 S w rs) (i : Nat) (hi : rs[i]? = some (Rg.sl enc e v l)) {j : Nat} (hj : j < l.length) (x : α) : M w0 S (w.setCell (el v j) (enc x)) (rs.set i (Rg.sl enc e v (l.set j x))) := by
 have g := grown_set w (el v j) (enc x)
 rw [← ((h.own i hi).cellAt hj).2.2] at g
 exact h.grow i hi ((h.own i hi).set hj x) g (.inl rfl)
end
section
variable {P : Program} {ops : Array Oper} {Q : Exit → Act → World → Prop} {s : St} {env : Env} {w0 w : World} {S : Nat → Prop} {rs : List Rg} {rest : List Oper}
variable {d : Nat} {ty : TypeId} {pos : String} {aft : Array Edge}
theorem E.boxM {T : TypeId} {x : Operand} {v : Value} {cs : List Value} (hM : M w0 S w rs) (hx : ev env x = some v) (hc : v.cells = cs.toArray) (hd : Nat.blt d s.n = true)
  (h : ∀ b w', M w0 S w' (rs ++ [Rg.blk b T cs]) → wpE P ops Q s rest ((d, pv b) :: env) w') : wpE P ops Q s (⟨some d, .box T x, ty, pos, aft, none⟩ :: rest) env w :=
 E.boxB hx hc hd fun w' hb hx _ => h _ w' (hM.new hx hb (fun k hk => by cases hk; exact Nat.le_refl _))
theorem E.allocM {T : TypeId} {z : Value} {cs : List Value} (hM : M w0 S w rs) (hz : (zeroValue T).run P w = .ok z w) (hc : z.cells = cs.toArray) (hd : Nat.blt d s.n = true)
  (h : ∀ b w', M w0 S w' (rs ++ [Rg.blk b T cs]) → wpE P ops Q s rest ((d, pv b) :: env) w') : wpE P ops Q s (⟨some d, .alloc T, ty, pos, aft, none⟩ :: rest) env w :=
 E.allocB hz hc hd fun w' hb hx _ => h _ w' (hM.new hx hb (fun k hk => by cases hk; exact Nat.le_refl _))
theorem setBlk {b off : Nat} {T : TypeId} {cs : List Value} (hM : M w0 S w rs) (i : Nat) (hi : rs[i]? = some (Rg.blk b T cs)) (u : Value) : M w0 S (w.setCell ⟨b, off, none⟩ u) (rs.set i (Rg.blk b T (cs.set off u))) :=
 hM.upd i hi (FrS.ofGrown (grown_set w ⟨b, off, none⟩ u) (fun k hk => by cases hk; rfl)) (by
  have := (hM.blk i hi).set off u
  show Blk _ b T _
  simpa using this) (fun k hk => .inl hk)
theorem E.storeM {t T : TypeId} {x y : Operand} {b off : Nat} {u old : Value} {cs : List Value} (i : Nat) (hM : M w0 S w rs) (hi : rs[i]? = some (Rg.blk b T cs)) (hx : ev env x = some (.pointer (some ⟨b, off, none⟩))) (hy : ev env y = some u) (hs : (P.info? t).map (·.size) = some 1) (h1 : u.oneCell' = true) (ho : cs[off]? = some old)
  (h : ∀ w', M w0 S w' (rs.set i (Rg.blk b T (cs.set off u))) → wpE P ops Q s rest env w') : wpE P ops Q s (⟨none, .store t x y, ty, pos, aft, none⟩ :: rest) env w :=
 E.store hx hy hs h1 (hM.bcell i hi ho) ((hM.blk i hi).frozen off) (h _ (setBlk hM i hi u))
theorem E.storeAM {t T : TypeId} {x y : Operand} {b : Nat} {cs cur : List Value} (i : Nat) (hM : M w0 S w rs) (hi : rs[i]? = some (Rg.blk b T cur)) (hx : ev env x = some (pv b)) (hy : ev env y = some (.agg cs.toArray)) (hs : (P.info? t).map (·.size) = some cs.length) (hl : cur.length = cs.length) (h1 : ∀ u ∈ cs, u.oneCell' = true)
  (h : ∀ w', M w0 S w' (rs.set i (Rg.blk b T cs)) → wpE P ops Q s rest env w') : wpE P ops Q s (⟨none, .store t x y, ty, pos, aft, none⟩ :: rest) env w :=
 E.storeBA hx hy hs (hM.blk i hi) (by simpa using hl) h1 fun w' hb g _ => h w' (hM.upd i hi (FrS.ofGrown g (fun k hk => by cases hk; rfl)) hb (fun k hk => .inl hk))
theorem E.varM {t T ty2 : TypeId} {y : Operand} {u z : Value} {pos2 : String} {aft2 : Array Edge} (hM : M w0 S w rs) (hz : (zeroValue T).run P w = .ok z w) (hc : z.cells = #[z]) (hd : Nat.blt d s.n = true) (hy : ∀ b, ev ((d, pv b) :: env) y = some u) (hs : (P.info? t).map (·.size) = some 1) (h1 : u.oneCell' = true)
  (h : ∀ b w', M w0 S w' (rs ++ [Rg.blk b T [u]]) → wpE P ops Q s rest ((d, pv b) :: env) w') : wpE P ops Q s (⟨some d, .alloc T, ty, pos, aft, none⟩ :: ⟨none, .store t (.tmp d) y, ty2, pos2, aft2, none⟩ :: rest) env w :=
 E.varB hz hc hd (hy _) hs h1 fun w' hb hx _ => h _ w' (hM.new hx hb (fun k hk => by cases hk; exact Nat.le_refl _))
theorem E.storeL {α : Type} {enc : α → Value} {e t : TypeId} {x y : Operand} {ad : Addr} {v : Value} {l : List α} {j : Nat} (i : Nat) (a : α) (hM : M w0 S w rs) (hi : rs[i]? = some (Rg.sl enc e v l)) (hx : ev env x = some (.pointer (some ad))) (hy : ev env y = some (enc a)) (hs : (P.info? t).map (·.size) = some 1) (h1 : (enc a).oneCell' = true)
  (had : ad = el v j) (hj : j < l.length) (h : ∀ w', M w0 S w' (rs.set i (Rg.sl enc e v (l.set j a))) → wpE P ops Q s rest env w') : wpE P ops Q s (⟨none, .store t x y, ty, pos, aft, none⟩ :: rest) env w := by
 subst had
 have hc := (hM.own i hi).cellAt hj
 exact E.store hx hy hs h1 hc.1 hc.2.1 (h _ (hM.setL i hi hj a))
theorem E.pushM {α : Type} {enc : α → Value} {t e : Nat} {x y : Operand} {by_ d2 : Nat} {ty2 : TypeId} {pos2 : String} {aft2 : Array Edge} {v : Value} {l : List α} (i : Nat) (a : α) (hM : M w0 S w rs) (hi : rs[i]? = some (Rg.sl enc e v l)) (hx : ev env x = some v) (hy : ev env y = some (enc a)) (ht : P.underlying t = some (.slice e)) (hE : Elem P e 1 by_)
  (h1 : (enc a).oneCell' = true) (h63 : l.length + 1 ≤ 9223372036854775807) (hby : (l.length + 1) * by_ ≤ 140737488355328) (hdx : x ≠ .tmp d) (hd : Nat.blt d s.n = true) (hd2 : Nat.blt d2 s.n = true)
  (h : ∀ v' u w', M w0 S w' (rs.set i (Rg.sl enc e v' (l ++ [a]))) → wpE P ops Q s rest ((d2, v') :: (d, u) :: env) w') :
  wpE P ops Q s (⟨some d, .buildSlice t 1 #[(0, y)], ty, pos, aft, none⟩ :: ⟨some d2, .call ⟨.builtin .append, #[x, .tmp d], #[t, t]⟩, ty2, pos2, aft2, none⟩ :: rest) env w :=
 E.pushL a hx hy ht hE (hM.own i hi) h1 h63 hby (Nat.zero_le _) hdx hd hd2 fun v' w' ho g hl => h v' _ w' (hM.grow i hi ho g hl)
theorem E.pushFM {α : Type} {enc : α → List Value} {t e : Nat} {x y : Operand} {sz by_ d2 : Nat} {ty2 : TypeId} {pos2 : String} {aft2 : Array Edge} {v : Value} {l : List α} (i : Nat) (a : α) (hM : M w0 S w rs) (hi : rs[i]? = some (Rg.slF enc sz e v l)) (hx : ev env x = some v) (hy : ev env y = some (.agg (enc a).toArray)) (ht : P.underlying t = some (.slice e)) (hE : Elem P e sz by_)
  (hl : (enc a).length = sz) (hsm : sz ≤ 4096) (h1 : ∀ x ∈ enc a, x.oneCell' = true) (h63 : l.length + 1 ≤ 9223372036854775807) (hby : (l.length + 1) * by_ ≤ 140737488355328) (hdx : x ≠ .tmp d) (hd : Nat.blt d s.n = true) (hd2 : Nat.blt d2 s.n = true)
  (h : ∀ v' u w', M w0 S w' (rs.set i (Rg.slF enc sz e v' (l ++ [a]))) → wpE P ops Q s rest ((d2, v') :: (d, u) :: env) w') :
  wpE P ops Q s (⟨some d, .buildSlice t 1 #[(0, y)], ty, pos, aft, none⟩ :: ⟨some d2, .call ⟨.builtin .append, #[x, .tmp d], #[t, t]⟩, ty2, pos2, aft2, none⟩ :: rest) env w :=
 E.pushF a hx hy ht hE (hM.ownF i hi) hl hsm h1 h63 hby (Nat.zero_le _) hdx hd hd2 fun v' w' ho g hl => h v' _ w' (hM.growF i hi ho g hl)
theorem E.appendM {α : Type} {enc : α → Value} {t e : Nat} {x y : Operand} {by_ : Nat} {v u : Value} {l m : List α} (i : Nat) (hM : M w0 S w rs) (hi : rs[i]? = some (Rg.sl enc e v l)) (hx : ev env x = some v) (hy : ev env y = some u) (ht : P.underlying t = some (.slice e)) (hE : Elem P e 1 by_)
  (hu : RdL enc w u m) (h1 : ∀ a, (enc a).oneCell' = true) (h63 : l.length + m.length ≤ 9223372036854775807) (hby : (l.length + m.length) * by_ ≤ 140737488355328) (hd : Nat.blt d s.n = true)
  (h : ∀ v' w', M w0 S w' (rs.set i (Rg.sl enc e v' (l ++ m))) → wpE P ops Q s rest ((d, v') :: env) w') :
  wpE P ops Q s (⟨some d, .call ⟨.builtin .append, #[x, y], #[t, t]⟩, ty, pos, aft, none⟩ :: rest) env w :=
 E.appendL hx hy ht hE (hM.own i hi) hu h1 h63 hby (Nat.zero_le _) hd fun v' w' ho g hl => h v' w' (hM.grow i hi ho g hl)
theorem E.makeM {α : Type} {enc : α → Value} {t e : TypeId} {by_ : Nat} {x : Operand} {n : Nat} (z : α) (hM : M w0 S w rs) (hx : ev env x = some (.int .i64 (n : Int))) (ht : P.underlying t = some (.slice e)) (hz : (P.info? e).map (fun i => (i.zero, i.size, i.bytes)) = some (some (enc z), 1, by_)) (hc : (enc z).cells = #[enc z])
  (hby : by_ * n ≤ 281474976710656) (hn : n ≤ 9223372036854775807) (hd : Nat.blt d s.n = true)
  (h : ∀ v w', M w0 S w' (rs ++ [Rg.sl enc e v (List.replicate n z)]) → wpE P ops Q s rest ((d, v) :: env) w') : wpE P ops Q s (⟨some d, .makeSlice t x x, ty, pos, aft, none⟩ :: rest) env w :=
 E.make z hx ht hz hc hby hn w.heap.size (Nat.le_refl _) hd fun v w' ho x _ _ => h v w' (hM.new x (Rg.sl_new ho).1 (Rg.sl_new ho).2)
theorem E.mk1M {α : Type} {enc : α → Value} {t e : TypeId} {by_ : Nat} {x : Operand} (a : α) (hM : M w0 S w rs) (hx : ev env x = some (enc a)) (ht : P.underlying t = some (.slice e)) (hE : Elem P e 1 by_) (h1 : (enc a).oneCell' = true)
  (hd : Nat.blt d s.n = true) (h : ∀ v w', M w0 S w' (rs ++ [Rg.sl enc e v [a]]) → wpE P ops Q s rest ((d, v) :: env) w') : wpE P ops Q s (⟨some d, .buildSlice t 1 #[(0, x)], ty, pos, aft, none⟩ :: rest) env w :=
 E.mk1 a hx ht hE h1 w.heap.size (Nat.le_refl _) hd fun v w' ho x _ => h v w' (hM.new x (Rg.sl_new ho).1 (Rg.sl_new ho).2)
theorem E.mkmapM {α : Type} {t : TypeId} (kk : IntKind) (enc : α → Value) (hM : M w0 S w rs) (hd : Nat.blt d s.n = true) (h : ∀ r w', M w0 S w' (rs ++ [Rg.mp r kk enc []]) → wpE P ops Q s rest ((d, .map (some r)) :: env) w') : wpE P ops Q s (⟨some d, .makeMap t none, ty, pos, aft, none⟩ :: rest) env w :=
 E.mkmap kk enc hd fun w' hm x _ => h _ w' (hM.new x hm (fun k hk => by cases hk; exact Nat.le_refl _))
theorem E.mputM {α : Type} {t kt et : TypeId} {kk : IntKind} {enc : α → Value} {m : List (Int × α)} {r : Nat} {k : Int} {x y z : Operand} (i : Nat) (u : α) (hM : M w0 S w rs) (hi : rs[i]? = some (Rg.mp r kk enc m)) (hx : ev env x = some (.map (some r))) (hy : ev env y = some (.int kk k)) (hz : ev env z = some (enc u)) (ht : P.underlying t = some (.map kt et)) (hk : P.underlying kt = some (.int kk))
  (h : ∀ w', M w0 S w' (rs.set i (Rg.mp r kk enc (aput m k u))) → wpE P ops Q s rest env w') : wpE P ops Q s (⟨none, .mapUpdate t x y z, ty, pos, aft, none⟩ :: rest) env w :=
 E.mput u hx hy hz ht hk (hM.mp i hi) fun w' hm g _ => h w' (hM.upd i hi (FrS.ofGrown g (fun k hk => by cases hk; rfl)) hm (fun k hk => .inl hk))
end
end Go.Proofs.YtajklleiifhipaaGreatDoor.Sym
