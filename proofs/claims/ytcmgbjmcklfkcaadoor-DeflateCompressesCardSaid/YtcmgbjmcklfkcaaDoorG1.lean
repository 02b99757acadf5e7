/- Texts of the claim, laid together: Sym3, Sym4. -/
import Derived.Lib.SlBytesConst
import Derived.Test.YtcmgbjmcklfkcaaDoorG0
/- The walk by named slots: memory. Slices that are read, blocks of the call's own, slices that it makes. For whatever program. -/
namespace Go.Proofs.YtcmgbjmcklfkcaaDoor.Sym
set_option linter.unusedSimpArgs false
set_option linter.unusedVariables false
open Go.RowKit

/-- nothing that was there has turned -/
abbrev Ext (w w' : World) : Prop := Below w.heap.size w w'
theorem Ext.refl (w : World) : Ext w w := Below.refl _ _
theorem Ext.trans {a b c : World} (h : Ext a b) (k : Ext b c) : Ext a c := Below.trans h (k.mono h.size)
theorem Ext.alloc {a w : World} (h : Ext a w) (o : Obj) : Ext a (w.alloc o) := Below.alloc h h.size o
theorem Ext.new (w : World) (o : Obj) : Ext w (w.alloc o) := (Ext.refl w).alloc o
theorem Ext.drew {a w : World} (h : Ext a w) : Ext a w.drew := Below.drew h
theorem Ext.grown {a w w' : World} {row : Option Nat} (h : Ext a w) (hg : w.grownBy w' row) (hr : ∀ k, row = some k → a.heap.size ≤ k) : Ext a w' := Below.grown h hg h.size hr
theorem Ext.heap {w w' : World} (h : Ext w w') {b : Nat} {o : Obj} (hb : w.heap[b]? = some o) : w'.heap[b]? = some o := by
  rw [h.block b (Array.getElem?_eq_some_iff.1 hb).1]; exact hb

/-- cells in a row -/
def At (w : World) (b off : Nat) (cs : List Value) : Prop := ∀ j u, cs[j]? = some u → w.cell? ⟨b, off + j, none⟩ = some u
theorem At.ext {w w' : World} {b off : Nat} {cs : List Value} (h : At w b off cs) (k : Ext w w') : At w' b off cs := fun j u hu => by
  have h1 := h j u hu
  rw [k.cell (World.block_lt_of_cell? w ⟨b, off + j, none⟩ h1)]; exact h1
def bs (v : Value) : Nat × Nat := match v with | .slice (some a) _ _ => (a.block, a.off) | _ => (0, 0)
/-- the address of the j-th cell of a slice -/
def el (v : Value) (j : Nat) : Addr := ⟨(bs v).1, (bs v).2 + j, none⟩
/-- a slice of n elements of sz cells each, whose cells are cs -/
def Rd (w : World) (sz : Nat) (v : Value) (n : Nat) (cs : List Value) : Prop :=
  ∃ a cap, v = .slice a n cap ∧ n ≤ cap ∧ cap ≤ maxLen ∧ cs.length = n * sz ∧ (0 < cs.length → (∃ b off, a = some ⟨b, off, none⟩)) ∧ At w (bs v).1 (bs v).2 cs
theorem Rd.ext {w w' : World} {sz n : Nat} {v : Value} {cs : List Value} (h : Rd w sz v n cs) (k : Ext w w') : Rd w' sz v n cs := by
  obtain ⟨a, cap, h1, h2, h3, h4, h5, h6⟩ := h
  exact ⟨a, cap, h1, h2, h3, h4, h5, h6.ext k⟩
theorem Rd.len {w : World} {sz n : Nat} {v : Value} {cs : List Value} (h : Rd w sz v n cs) : cs.length = n * sz := h.choose_spec.choose_spec.2.2.2.1
theorem Rd.le {w : World} {sz n : Nat} {v : Value} {cs : List Value} (h : Rd w sz v n cs) : n ≤ 9223372036854775807 := by
  obtain ⟨a, cap, h1, h2, h3, _⟩ := h
  unfold maxLen at h3; omega
theorem Rd.cell {w : World} {sz n : Nat} {v : Value} {cs : List Value} (h : Rd w sz v n cs) {j : Nat} {u : Value} (hu : cs[j]? = some u) : w.cell? (el v j) = some u := by
  obtain ⟨a, cap, h1, h2, h3, h4, h5, h6⟩ := h
  exact h6 j u hu
theorem Rd.shape {w : World} {sz n : Nat} {v : Value} {cs : List Value} (h : Rd w sz v n cs) : ∃ a cap, v = .slice a n cap := by
  obtain ⟨a, cap, h1, _⟩ := h; exact ⟨a, cap, h1⟩

/-- slices of one-cell elements, as lists -/
def RdL {α : Type} (enc : α → Value) (w : World) (v : Value) (l : List α) : Prop := Rd w 1 v l.length (l.map enc)
theorem RdL.ext {α : Type} {enc : α → Value} {w w' : World} {v : Value} {l : List α} (h : RdL enc w v l) (k : Ext w w') : RdL enc w' v l := Rd.ext h k
theorem RdL.cell {α : Type} {enc : α → Value} {w : World} {v : Value} {l : List α} (h : RdL enc w v l) {j : Nat} (hj : j < l.length) : w.cell? (el v j) = some (enc l[j]) :=
  Rd.cell h (by simp [hj])
abbrev u8 (c : UInt8) : Value := .int .u8 (c.toNat : Int)
abbrev i64 (n : Int) : Value := .int .i64 n
theorem RdL.nil {α : Type} (enc : α → Value) (w : World) : RdL enc w (.slice none 0 0) ([] : List α) := ⟨none, 0, rfl, by simp, by unfold maxLen; omega, by simp, by simp, fun j u h => by simp at h⟩

/-- a block of cells, none of them frozen -/
def Blk (w : World) (b : Nat) (T : TypeId) (arr : Array Value) : Prop := w.heap[b]? = some (.cells arr T (0, 0))
theorem Blk.lt {w : World} {b : Nat} {T : TypeId} {arr : Array Value} (h : Blk w b T arr) : b < w.heap.size := (Array.getElem?_eq_some_iff.1 h).1
theorem Blk.cell {w : World} {b : Nat} {T : TypeId} {arr : Array Value} (h : Blk w b T arr) (j : Nat) : w.cell? ⟨b, j, none⟩ = arr[j]? := cell_of_row w b j arr T (0, 0) h
theorem Blk.frozen {w : World} {b : Nat} {T : TypeId} {arr : Array Value} (h : Blk w b T arr) (j : Nat) : w.frozen? ⟨b, j, none⟩ = false := frozen_of_row w b j arr T h
theorem Blk.ext {w w' : World} {b : Nat} {T : TypeId} {arr : Array Value} (h : Blk w b T arr) (k : Ext w w') : Blk w' b T arr := Ext.heap k h
theorem Blk.new (w : World) (T : TypeId) (arr : Array Value) : Blk (w.alloc (.cells arr T)) w.heap.size T arr := heap_alloc_new w _
theorem Blk.alloc {w : World} {b : Nat} {T : TypeId} {arr : Array Value} (h : Blk w b T arr) (o : Obj) : Blk (w.alloc o) b T arr := h.ext (Ext.new w o)
theorem Blk.set {w : World} {b : Nat} {T : TypeId} {arr : Array Value} (h : Blk w b T arr) (j : Nat) (u : Value) : Blk (w.setCell ⟨b, j, none⟩ u) b T (arr.setIfInBounds j u) := heap_setCell_same w b j arr T u h
theorem Blk.setOther {w : World} {b : Nat} {T : TypeId} {arr : Array Value} (h : Blk w b T arr) {p : Addr} (hne : b ≠ p.block) (u : Value) : Blk (w.setCell p u) b T arr := by
  unfold Blk; rw [heap_setCell_other w p b u hne]; exact h
theorem Blk.at {w : World} {b : Nat} {T : TypeId} {arr : Array Value} (h : Blk w b T arr) (off : Nat) (cs : List Value) (hc : ∀ j u, cs[j]? = some u → arr[off + j]? = some u) : At w b off cs := fun j u hu => by
  rw [h.cell]; exact hc j u hu
theorem Ext.setCell {a w : World} (h : Ext a w) {p : Addr} (hp : a.heap.size ≤ p.block) (u : Value) : Ext a (w.setCell p u) := Below.setCell h hp u
/-- cells of a row replaced -/
def splice (cur : Array Value) (off : Nat) (new : List Value) : Array Value := (cur.toList.take off ++ new ++ cur.toList.drop (off + new.length)).toArray
theorem splice_all (cur : Array Value) (new : List Value) (h : cur.size = new.length) : splice cur 0 new = new.toArray := by
  have : List.drop new.length cur.toList = [] := List.drop_eq_nil_of_le (by simp [h])
  simp [splice, this]
theorem Blk.setRow {w : World} {b : Nat} {T : TypeId} {arr : Array Value} (h : Blk w b T arr) (new : Array Value) : Blk (w.setRow b new) b T new := setRow_heap w b arr new T _ h
theorem Blk.setRowOther {w : World} {b b' : Nat} {T : TypeId} {arr : Array Value} (h : Blk w b T arr) (hne : b ≠ b') (new : Array Value) : Blk (w.setRow b' new) b T arr := by
  unfold Blk; rw [setRow_other w b' b new hne]; exact h
theorem setRow_alloc (w : World) (z cs : Array Value) (t : TypeId) : (w.alloc (.cells z t)).setRow w.heap.size cs = w.alloc (.cells cs t) := by
  have h : ((w.alloc (.cells z t)).setRow w.heap.size cs).heap = (w.alloc (.cells cs t)).heap := by
    apply Array.ext_getElem?
    intro i
    by_cases e : i = w.heap.size
    · subst e
      rw [setRow_heap _ _ z cs t (0, 0) (heap_alloc_new w _), heap_alloc_new]
    · rw [setRow_other _ _ _ _ e]
      show (w.heap.push _)[i]? = (w.heap.push _)[i]?
      rw [Array.getElem?_push, Array.getElem?_push, if_neg e, if_neg e]
  show ({ w with heap := ((w.alloc (.cells z t)).setRow w.heap.size cs).heap } : World) = _
  rw [h]; rfl
theorem Ext.setRow {a w : World} (h : Ext a w) {b : Nat} (hp : a.heap.size ≤ b) (new : Array Value) : Ext a (w.setRow b new) :=
  Below.trans h ⟨rfl, rfl, rfl, by simp, fun k hk => setRow_other w b k new (by omega)⟩

section
variable {P : Program} {ops : Array Oper} {Q : Exit → Act → World → Prop} {s : St} {env : Env} {w : World} {rest : List Oper}
variable {d : Nat} {ty : TypeId} {pos : String} {aft : Array Edge}

theorem E.len {t e : TypeId} {x : Operand} {sz n : Nat} {v : Value} {cs : List Value} (hx : ev env x = some v) (hR : Rd w sz v n cs) (ht : P.underlying t = some (.slice e)) (hd : Nat.blt d s.n = true)
    (h : wpE P ops Q s rest ((d, .int .i64 (n : Int)) :: env) w) : wpE P ops Q s (⟨some d, .call ⟨.builtin .len, #[x], #[t]⟩, ty, pos, aft, none⟩ :: rest) env w := by
  obtain ⟨a, cap, rfl⟩ := hR.shape
  exact E.op (fun a' ha => by simp [execOp, resolve, invoke, builtin, Builtin.len_, run_underlying ht, goInt, ha.ev hx]) hd h
theorem E.lenv {t e : TypeId} {x : Operand} {n : Nat} {v : Value} (hx : ev env x = some v) (hR : ∃ a cap, v = .slice a n cap) (ht : P.underlying t = some (.slice e)) (hd : Nat.blt d s.n = true)
    (h : wpE P ops Q s rest ((d, .int .i64 (n : Int)) :: env) w) : wpE P ops Q s (⟨some d, .call ⟨.builtin .len, #[x], #[t]⟩, ty, pos, aft, none⟩ :: rest) env w := by
  obtain ⟨a, cap, rfl⟩ := hR
  exact E.op (fun a' ha => by simp [execOp, resolve, invoke, builtin, Builtin.len_, run_underlying ht, goInt, ha.ev hx]) hd h
theorem E.lenS {t : TypeId} {x : Operand} {b : ByteArray} (hx : ev env x = some (.string b)) (ht : P.underlying t = some .string) (hd : Nat.blt d s.n = true)
    (h : wpE P ops Q s rest ((d, .int .i64 (b.size : Int)) :: env) w) : wpE P ops Q s (⟨some d, .call ⟨.builtin .len, #[x], #[t]⟩, ty, pos, aft, none⟩ :: rest) env w :=
  E.op (fun a' ha => by simp [execOp, resolve, invoke, builtin, Builtin.len_, run_underlying ht, goInt, ha.ev hx]) hd h
theorem addr_add (b off k : Nat) : (⟨b, off, none⟩ : Addr).add k = ⟨b, off + k, none⟩ := by
  unfold Addr.add; split
  · rename_i h; subst h; rfl
  · rfl
/-- the address of an element of a slice -/
theorem E.idx {t e : TypeId} {x ix : Operand} {k : IntKind} {i : Int} {sz n : Nat} {v : Value} {cs : List Value} (hx : ev env x = some v) (hi : ev env ix = some (.int k i)) (hR : Rd w sz v n cs)
    (ht : P.underlying t = some (.slice e)) (hs : (P.info? e).map (·.size) = some sz) (h0 : 0 ≤ i) (h1 : i < n) (hsz : 0 < sz) (hd : Nat.blt d s.n = true)
    (h : wpE P ops Q s rest ((d, .pointer (some (el v (i.toNat * sz)))) :: env) w) : wpE P ops Q s (⟨some d, .indexAddr t x ix, ty, pos, aft, none⟩ :: rest) env w := by
  obtain ⟨a, cap, rfl, hc1, hc2, hl, ha0, hat⟩ := hR
  have hpos : 0 < cs.length := by rw [hl]; exact Nat.mul_pos (by omega) hsz
  obtain ⟨b, off, rfl⟩ := ha0 hpos
  refine E.op (fun a' ha => ?_) hd h
  cases hq : P.info? e with
  | none => simp [hq] at hs
  | some inf =>
    have hs' : inf.size = sz := by simpa [hq] using hs
    simp [execOp, ha.ev hx, ha.ev hi, Instr.indexAt, asIntOf, run_underlying ht, sizeOf, typeInfo, hq, hs', h0, h1, addr_add, el, bs]
/-- an element of one cell -/
theorem E.load {t : TypeId} {x : Operand} {ad : Addr} {u : Value} {ds : TypeDesc} (hx : ev env x = some (.pointer (some ad))) (ht : P.underlying t = some ds) (hna : (match ds with | .struct _ | .array _ _ => true | _ => false) = false)
    (hc : w.cell? ad = some u) (hd : Nat.blt d s.n = true) (h : wpE P ops Q s rest ((d, u) :: env) w) : wpE P ops Q s (⟨some d, .load t x, ty, pos, aft, none⟩ :: rest) env w :=
  E.op (fun a' ha => by
    have hagg : (isAgg t).run P w = .ok false w := by
      unfold isAgg
      rw [Sem.run_bind, run_underlying ht w]
      cases ds <;> simp_all
    simp [execOp, ha.ev hx, Instr.loadAt, Instr.sureAddr, loadVar, hagg, hc]) hd h
/-- a struct or an array, whole -/
theorem E.loadA {t : TypeId} {x : Operand} {b off : Nat} {cs : List Value} {ds : TypeDesc} (hx : ev env x = some (.pointer (some ⟨b, off, none⟩))) (ht : P.underlying t = some ds) (hna : (match ds with | .struct _ | .array _ _ => true | _ => false) = true)
    (hs : (P.info? t).map (·.size) = some cs.length) (hc : At w b off cs) (hd : Nat.blt d s.n = true) (h : wpE P ops Q s rest ((d, .agg cs.toArray) :: env) w) : wpE P ops Q s (⟨some d, .load t x, ty, pos, aft, none⟩ :: rest) env w :=
  E.op (fun a' ha => by
    have hagg : (isAgg t).run P w = .ok true w := by
      unfold isAgg
      rw [Sem.run_bind, run_underlying ht w]
      cases ds <;> simp_all
    have hl : (loadCells ⟨b, off, none⟩ cs.length).run P w = .ok cs.toArray w := run_loadCells_list (P := P) w ⟨b, off, none⟩ cs (fun j v hv => by rw [addr_add]; exact hc j v hv)
    cases hq : P.info? t with
    | none => simp [hq] at hs
    | some inf =>
      have hs' : inf.size = cs.length := by simpa [hq] using hs
      simp [execOp, ha.ev hx, Instr.loadAt, Instr.sureAddr, loadVar, hagg, sizeOf, typeInfo, hq, hs', hl]) hd h
theorem E.store {t : TypeId} {x y : Operand} {ad : Addr} {u old : Value} (hx : ev env x = some (.pointer (some ad))) (hy : ev env y = some u) (hs : (P.info? t).map (·.size) = some 1) (h1 : u.oneCell' = true)
    (hc : w.cell? ad = some old) (hf : w.frozen? ad = false) (h : wpE P ops Q s rest env (w.setCell ad u)) : wpE P ops Q s (⟨none, .store t x y, ty, pos, aft, none⟩ :: rest) env w :=
  E.op0 (fun a' ha => by
    cases hq : P.info? t with
    | none => simp [hq] at hs
    | some inf =>
      have hs' : inf.size = 1 := by simpa [hq] using hs
      have hadd : ad.add 0 = ad := by simp [Addr.add]
      have hcs : u.cells = #[u] := by cases u <;> simp_all [Value.cells, Value.oneCell']
      simp only [execOp, ha.ev hx, ha.ev hy, Instr.storeAt, Instr.sureAddr, storeVar]
      cases u <;> simp_all [sizeOf, typeInfo, storeCells, Go.store, Sem.run, Value.oneCell']) h
theorem E.alloc {t : TypeId} {z : Value} (hz : (zeroValue t).run P w = .ok z w) (hd : Nat.blt d s.n = true) (h : wpE P ops Q s rest ((d, .pointer (some ⟨w.heap.size, 0, none⟩)) :: env) (w.alloc (.cells z.cells t))) : wpE P ops Q s (⟨some d, .alloc t, ty, pos, aft, none⟩ :: rest) env w :=
  E.op (fun a' ha => by simp [execOp, Instr.alloc, hz, newVar, newRow, newObj]; rfl) hd h
theorem E.box {t : TypeId} {x : Operand} {v : Value} (hx : ev env x = some v) (hd : Nat.blt d s.n = true) (h : wpE P ops Q s rest ((d, .pointer (some ⟨w.heap.size, 0, none⟩)) :: env) (w.alloc (.cells v.cells t))) : wpE P ops Q s (⟨some d, .box t x, ty, pos, aft, none⟩ :: rest) env w :=
  E.op (fun a' ha => by simp [execOp, Instr.box, newVar, newRow, newObj, ha.ev hx]; rfl) hd h
/-- an element of one cell of a slice is read -/
theorem E.get {α : Type} {enc : α → Value} {l : List α} {t e t2 ty2 : TypeId} {x ix : Operand} {kd : IntKind} {i : Int} {v : Value} {ds : TypeDesc} {d2 : Nat} {pos2 : String} {aft2 : Array Edge} (k : Nat)
    (hx : ev env x = some v) (hi : ev env ix = some (.int kd i)) (hR : RdL enc w v l) (hk : i = (k : Int)) (h1 : k < l.length)
    (ht : P.underlying t = some (.slice e)) (hs : (P.info? e).map (·.size) = some 1) (ht2 : P.underlying t2 = some ds) (hna : (match ds with | .struct _ | .array _ _ => true | _ => false) = false)
    (hd : Nat.blt d s.n = true) (hd2 : Nat.blt d2 s.n = true) (h : wpE P ops Q s rest ((d2, enc l[k]) :: (d, .pointer (some (el v k))) :: env) w) :
    wpE P ops Q s (⟨some d, .indexAddr t x ix, ty, pos, aft, none⟩ :: ⟨some d2, .load t2 (.tmp d), ty2, pos2, aft2, none⟩ :: rest) env w := by
  subst hk
  have e0 : (k : Int).toNat * 1 = k := by omega
  refine E.idx hx hi hR ht hs (by omega) (by omega) (by decide) hd ?_
  rw [e0]
  exact E.load (by show look _ d = _; rw [look_cons, if_pos rfl]) ht2 hna (hR.cell h1) hd2 h
/-- the address of an element of an array variable -/
theorem E.idxA {t e : TypeId} {x ix : Operand} {k : IntKind} {i : Int} {sz n b off : Nat} (hx : ev env x = some (.pointer (some ⟨b, off, none⟩))) (hi : ev env ix = some (.int k i))
    (ht : P.underlying t = some (.array n e)) (hs : (P.info? e).map (·.size) = some sz) (h0 : 0 ≤ i) (h1 : i < n) (hd : Nat.blt d s.n = true)
    (h : wpE P ops Q s rest ((d, .pointer (some ⟨b, off + i.toNat * sz, none⟩)) :: env) w) : wpE P ops Q s (⟨some d, .indexAddr t x ix, ty, pos, aft, none⟩ :: rest) env w := by
  refine E.op (fun a' ha => ?_) hd h
  cases hq : P.info? e with
  | none => simp [hq] at hs
  | some inf =>
    have hs' : inf.size = sz := by simpa [hq] using hs
    simp [execOp, ha.ev hx, ha.ev hi, Instr.indexAt, Instr.sureAddr, asIntOf, run_underlying ht, sizeOf, typeInfo, hq, hs', h0, h1, addr_add]
/-- a struct or an array stored whole into a block of the call's own -/
theorem E.storeA {t T : TypeId} {x y : Operand} {b off : Nat} {cs : List Value} {cur : Array Value} (hx : ev env x = some (.pointer (some ⟨b, off, none⟩))) (hy : ev env y = some (.agg cs.toArray)) (hs : (P.info? t).map (·.size) = some cs.length)
    (hb : Blk w b T cur) (hfit : off + cs.length ≤ cur.size) (h1 : ∀ u ∈ cs, u.oneCell' = true) (h : wpE P ops Q s rest env (w.setRow b (splice cur off cs))) : wpE P ops Q s (⟨none, .store t x y, ty, pos, aft, none⟩ :: rest) env w :=
  E.op0 (fun a' ha => by
    have hst := run_storeCells_at P b off T cs 0 cur w hb (by simpa using hfit) h1
    cases hq : P.info? t with
    | none => simp [hq] at hs
    | some inf =>
      have hs' : inf.size = cs.length := by simpa [hq] using hs
      simp only [Nat.add_zero] at hst
      simp [execOp, ha.ev hx, ha.ev hy, Instr.storeAt, Instr.sureAddr, storeVar, sizeOf, typeInfo, hq, hs', Value.cells, hst, splice]) h
theorem retA {fn : Func} {n t T : Nat} {ty : TypeId} {b : Nat} {cs : List Value} {ds : TypeDesc} {Φ : Value → World → Prop} (hres : fn.results = #[.cell t ty]) (hv : look env t = some (.pointer (some ⟨b, 0, none⟩)))
    (ht : P.underlying ty = some ds) (hna : (match ds with | .struct _ | .array _ _ => true | _ => false) = true) (hb : Blk w b T cs.toArray) (hs : (P.info? ty).map (·.size) = some cs.length) (h : Φ (.agg cs.toArray) w) :
    wpX .ret (bodyPost P fn (RetPost Φ)) ⟨n, []⟩ env w :=
  retG (fun a ha => results_cell_row hres a.tmps w b T cs.toArray (0, 0) ds (by simp [ha.get t _ hv]) hb ht hna (by simpa using hs)) h
end
end Go.Proofs.YtcmgbjmcklfkcaaDoor.Sym

/- The walk by named slots: structs, pointers, parts of slices. For whatever program. -/
namespace Go.Proofs.YtcmgbjmcklfkcaaDoor.Sym
set_option linter.unusedSimpArgs false
set_option linter.unusedVariables false
open Go.RowKit

theorem grown_refl (w : World) (r : Option Nat) : w.grownBy w r := ⟨rfl, rfl, rfl, Nat.le_refl _, fun _ _ _ => rfl⟩
theorem grown_trans {a b c : World} {r : Option Nat} (h : a.grownBy b r) (k : b.grownBy c r) : a.grownBy c r :=
  ⟨k.os.trans h.os, k.tape.trans h.tape, k.output.trans h.output, Nat.le_trans h.size k.size, fun i hi hr => (k.block i (Nat.lt_of_lt_of_le hi h.size) hr).trans (h.block i hi hr)⟩
theorem Ext.toGrown {w w' : World} (h : Ext w w') (r : Option Nat) : w.grownBy w' r := ⟨h.os, h.tape, h.output, h.size, fun i hi _ => h.block i hi⟩
theorem grown_set (w : World) (p : Addr) (u : Value) : w.grownBy (w.setCell p u) (some p.block) :=
  ⟨rfl, rfl, rfl, by simp, fun k _ hk => heap_setCell_other w p k u (fun e => hk (by rw [e]))⟩
theorem Ext.ofGrown {a w w' : World} {b : Nat} (h : Ext a w) (g : w.grownBy w' (some b)) (hb : a.heap.size ≤ b) : Ext a w' := Ext.grown h g (fun k e => by cases e; exact hb)
theorem Blk.other {w w' : World} {b c : Nat} {T : TypeId} {arr : Array Value} (h : Blk w b T arr) (g : w.grownBy w' (some c)) (hne : b ≠ c) : Blk w' b T arr := by
  unfold Blk; rw [g.block b h.lt (fun e => hne (by cases e; rfl))]; exact h
theorem At.other {w w' : World} {b off c : Nat} {cs : List Value} (h : At w b off cs) (g : w.grownBy w' (some c)) (hne : b ≠ c) : At w' b off cs := fun j u hu => g.cell (h j u hu) (fun e => hne (by cases e; rfl))
theorem Rd.other {w w' : World} {sz n c : Nat} {v : Value} {cs : List Value} (h : Rd w sz v n cs) (g : w.grownBy w' (some c)) (hne : (bs v).1 ≠ c) : Rd w' sz v n cs := by
  obtain ⟨a, cap, h1, h2, h3, h4, h5, h6⟩ := h
  exact ⟨a, cap, h1, h2, h3, h4, h5, h6.other g hne⟩
theorem Rd.lt {w : World} {sz n : Nat} {v : Value} {cs : List Value} (h : Rd w sz v n cs) (hc : 0 < cs.length) : (bs v).1 < w.heap.size := by
  obtain ⟨u, hu⟩ : ∃ u, cs[0]? = some u := ⟨cs[0], by simp [hc]⟩
  exact World.block_lt_of_cell? w (el v 0) (h.cell hu)
/-- any other slice with no elements reads alike -/
theorem Rd.nil_other {w w' : World} {sz n : Nat} {v : Value} (h : Rd w sz v n []) : Rd w' sz v n [] := by
  obtain ⟨a, cap, h1, h2, h3, h4, h5, h6⟩ := h
  exact ⟨a, cap, h1, h2, h3, h4, h5, fun j u hu => by simp at hu⟩

def evp (env : Env) : List (Nat × Operand) → Option (List (Nat × Value))
  | [] => some []
  | x :: r => match ev env x.2, evp env r with
    | some v, some l => some ((x.1, v) :: l)
    | _, _ => none
theorem Sat.evp {s : St} {a : Act} {env : Env} (h : Sat s a env) : ∀ {xs : List (Nat × Operand)} {vs : List (Nat × Value)}, Sym.evp env xs = some vs → xs.map (fun x => (x.1, a.eval x.2)) = vs
  | [], vs, hx => by simp [Sym.evp] at hx; simp [hx]
  | x :: r, vs, hx => by
    unfold Sym.evp at hx
    cases h1 : Sym.ev env x.2 with
    | none => simp [h1] at hx
    | some v =>
      cases h2 : Sym.evp env r with
      | none => simp [h1, h2] at hx
      | some l =>
        simp [h1, h2] at hx
        subst hx
        simp only [List.map_cons, h.ev h1, h.evp h2]

section
variable {P : Program} {ops : Array Oper} {Q : Exit → Act → World → Prop} {s : St} {env : Env} {w : World} {rest : List Oper}
variable {d : Nat} {ty : TypeId} {pos : String} {aft : Array Edge}

theorem E.build {t : TypeId} {xs : List (Nat × Operand)} {vs : List (Nat × Value)} {cs : List Value} (hx : evp env xs = some vs) (hb : (Instr.build t vs.toArray).run P w = .ok (.agg cs.toArray) w)
    (hd : Nat.blt d s.n = true) (h : wpE P ops Q s rest ((d, .agg cs.toArray) :: env) w) : wpE P ops Q s (⟨some d, .build t xs.toArray, ty, pos, aft, none⟩ :: rest) env w :=
  E.op (fun a ha => by
    have e : (xs.toArray.map fun (i, x) => (i, a.eval x)) = vs.toArray := by rw [List.map_toArray, ← ha.evp hx]
    simp only [execOp]
    rw [e, Sem.run_bind, hb]; rfl) hd h
theorem E.buildS {t : TypeId} {n : Nat} {xs : List (Nat × Operand)} {vs : List (Nat × Value)} {e : TypeId} {cs : List Value} (hx : evp env xs = some vs) (hb : ∀ w, (Instr.buildSlice t n vs.toArray).run P w = .ok (.slice (some ⟨w.heap.size, 0, none⟩) n n) (w.alloc (.cells cs.toArray e)))
    (hd : Nat.blt d s.n = true) (h : wpE P ops Q s rest ((d, .slice (some ⟨w.heap.size, 0, none⟩) n n) :: env) (w.alloc (.cells cs.toArray e))) : wpE P ops Q s (⟨some d, .buildSlice t n xs.toArray, ty, pos, aft, none⟩ :: rest) env w :=
  E.op (fun a ha => by
    have e : (xs.toArray.map fun (i, x) => (i, a.eval x)) = vs.toArray := by rw [List.map_toArray, ← ha.evp hx]
    simp only [execOp]
    rw [e, Sem.run_bind, hb]; rfl) hd h
/-- a new slice written out reads as it was written -/
theorem Rd.made (w : World) (sz n : Nat) (e : TypeId) (cs : List Value) (fr : Nat × Nat) (hl : cs.length = n * sz) (hn : n ≤ maxLen) : Rd (w.alloc (.cells cs.toArray e fr)) sz (.slice (some ⟨w.heap.size, 0, none⟩) n n) n cs :=
  ⟨some ⟨w.heap.size, 0, none⟩, n, rfl, Nat.le_refl _, hn, hl, fun _ => ⟨_, _, rfl⟩, fun j u hu => by
    show (w.alloc _).cell? ⟨w.heap.size, 0 + j, none⟩ = _
    rw [Nat.zero_add, cell_of_row _ _ _ _ _ _ (heap_alloc_new w _), List.getElem?_toArray]; exact hu⟩
/-- the bytes of a constant string -/
theorem E.lit {t e ty2 : TypeId} {n d2 : Nat} {pos2 : String} {aft2 : Array Edge} {xs : List (Nat × Operand)} {vs : List (Nat × Value)} {cs : List Value} (hx : evp env xs = some vs) (hb : ∀ w, (Instr.buildSlice t n vs.toArray).run P w = .ok (.slice (some ⟨w.heap.size, 0, none⟩) n n) (w.alloc (.cells cs.toArray e)))
    (ht : P.underlying t = some (.slice e)) (he : P.underlying e = some (.int .u8)) (hl : cs.length = n) (hn : n ≤ maxLen) (hd : Nat.blt d s.n = true) (hd2 : Nat.blt d2 s.n = true)
    (h : ∀ v w', Rd w' 1 v n cs → (bs v).1 = w.heap.size → w'.heap.size = w.heap.size + 1 → Ext w w' → wpE P ops Q s rest ((d2, v) :: (d, v) :: env) w') :
    wpE P ops Q s (⟨some d, .buildSlice t n xs.toArray, ty, pos, aft, none⟩ :: ⟨some d2, .convert t t (.tmp d), ty2, pos2, aft2, none⟩ :: rest) env w := by
  refine E.buildS hx hb hd ?_
  refine E.op (v := .slice (some ⟨w.heap.size, 0, none⟩) n n) (w' := w.alloc (.cells cs.toArray e (n, n + 1))) (fun a ha => ?_) hd2 (h _ _ (Rd.made w 1 n e cs _ (by omega) hn) rfl (World.size_alloc ..) (Ext.new _ _))
  have hv : a.eval (.tmp d) = .slice (some ⟨w.heap.size, 0, none⟩) n n := ha.ev (by show look _ d = _; rw [look_cons, if_pos rfl])
  have hr := Lib.run_convert_bytes_const (P := P) w t e cs.toArray n n ht he
  simp only [execOp, hv]
  rw [Sem.run_bind, hr]
  simp [hl]
theorem E.nilc {x : Operand} {a : Addr} (hx : ev env x = some (.pointer (some a))) (hd : Nat.blt d s.n = true) (h : wpE P ops Q s rest ((d, .pointer (some a)) :: env) w) : wpE P ops Q s (⟨some d, .nilCheck x, ty, pos, aft, none⟩ :: rest) env w :=
  E.op (fun a' ha => by simp [execOp, ha.ev hx]) hd h
theorem E.eqnil {t t2 e : TypeId} {x y : Operand} {a : Option Addr} (hx : ev env x = some (.pointer a)) (hy : ev env y = some (.pointer none)) (ht : P.underlying t = some (.pointer e))
    (hd : Nat.blt d s.n = true) (h : wpE P ops Q s rest ((d, .bool a.isNone) :: env) w) : wpE P ops Q s (⟨some d, .binOp .eql t x y t2, ty, pos, aft, none⟩ :: rest) env w :=
  E.op (fun a' ha => by
    have h1 : (Op.equal t (.pointer a) (.pointer none)).run P w = .ok a.isNone w := by
      show (Op.equalIn (9999 + 1) t (.pointer a) (.pointer none)).run P w = _
      unfold Op.equalIn
      rw [Sem.run_bind, run_underlying ht]
      cases a <;> rfl
    have h2 : (binOp .eql t (.pointer a) (.pointer none)).run P w = .ok (.bool a.isNone) w := by simp only [binOp]; simp [h1]
    simp only [execOp, ha.ev hx, ha.ev hy, eqGuard]
    simp [h2]) hd h
theorem E.nenil {t t2 e : TypeId} {x y : Operand} {a : Option Addr} (hx : ev env x = some (.pointer a)) (hy : ev env y = some (.pointer none)) (ht : P.underlying t = some (.pointer e))
    (hd : Nat.blt d s.n = true) (h : wpE P ops Q s rest ((d, .bool (!a.isNone)) :: env) w) : wpE P ops Q s (⟨some d, .binOp .neq t x y t2, ty, pos, aft, none⟩ :: rest) env w :=
  E.op (fun a' ha => by
    have h1 : (Op.equal t (.pointer a) (.pointer none)).run P w = .ok a.isNone w := by
      show (Op.equalIn (9999 + 1) t (.pointer a) (.pointer none)).run P w = _
      unfold Op.equalIn
      rw [Sem.run_bind, run_underlying ht]
      cases a <;> rfl
    have h2 : (binOp .neq t (.pointer a) (.pointer none)).run P w = .ok (.bool (!a.isNone)) w := by simp only [binOp]; simp [h1]
    simp only [execOp, ha.ev hx, ha.ev hy, eqGuard]
    simp [h2]) hd h
/-- the address of a field -/
theorem E.fld {t : TypeId} {x : Operand} {f o b off : Nat} {fs : Array Field} {fd : Field} {sz : Nat} (hx : ev env x = some (.pointer (some ⟨b, off, none⟩))) (ht : P.underlying t = some (.struct fs)) (hf : fs[f]? = some fd) (ho : fd.offset = o)
    (hs : (P.info? fd.type).map (·.size) = some (sz + 1)) (hd : Nat.blt d s.n = true) (h : wpE P ops Q s rest ((d, .pointer (some ⟨b, off + o, none⟩)) :: env) w) : wpE P ops Q s (⟨some d, .fieldAddr t x f, ty, pos, aft, none⟩ :: rest) env w :=
  E.op (fun a' ha => by
    subst ho
    cases hq : P.info? fd.type with
    | none => simp [hq] at hs
    | some inf =>
      have hs' : inf.size = sz + 1 := by simpa [hq] using hs
      simp [execOp, ha.ev hx, Instr.fieldAt, Instr.sureAddr, run_underlying ht, hf, fieldPlace, sizeOf, typeInfo, hq, hs', addr_add]) hd h
/-- a field of a struct value, of one cell -/
theorem E.field {t : TypeId} {x : Operand} {f : Nat} {fs : Array Field} {fd : Field} {cs : List Value} {u : Value} {ds : TypeDesc} (hx : ev env x = some (.agg cs.toArray)) (ht : P.underlying t = some (.struct fs)) (hf : fs[f]? = some fd)
    (hu : P.underlying fd.type = some ds) (hna : (match ds with | .struct _ | .array _ _ => true | _ => false) = false) (hc : cs[fd.offset]? = some u)
    (hd : Nat.blt d s.n = true) (h : wpE P ops Q s rest ((d, u) :: env) w) : wpE P ops Q s (⟨some d, .field t x f, ty, pos, aft, none⟩ :: rest) env w :=
  E.op (fun a' ha => by
    have hagg : (isAgg fd.type).run P w = .ok false w := by
      unfold isAgg
      rw [Sem.run_bind, run_underlying hu w]
      cases ds <;> simp_all
    simp [execOp, ha.ev hx, Instr.field, run_underlying ht, hf, asAgg, part, hagg, hc]) hd h

/-! parts of slices -/
theorem Rd.part {sz n l h : Nat} {v : Value} {cs : List Value} {a : Option Addr} {cap : Nat} (hR : Rd w sz v n cs) (hv : v = .slice a n cap) (hl : l ≤ h) (hh : h ≤ n) :
    Rd w sz (.slice (if cap = l then a else a.map (·.add (l * sz))) (h - l) (cap - l)) (h - l) ((cs.drop (l * sz)).take ((h - l) * sz)) ∧ (bs (.slice (if cap = l then a else a.map (·.add (l * sz))) (h - l) (cap - l))).1 = (bs v).1 := by
  obtain ⟨a', cap', h1, h2, h3, h4, h5, h6⟩ := hR
  rw [hv] at h1
  obtain ⟨rfl, rfl⟩ : a = a' ∧ cap = cap' := by simpa using h1
  subst hv
  have hlen : ((cs.drop (l * sz)).take ((h - l) * sz)).length = (h - l) * sz := by
    have hle : h * sz ≤ n * sz := Nat.mul_le_mul_right _ hh
    have : (h - l) * sz = h * sz - l * sz := Nat.sub_mul ..
    simp only [List.length_take, List.length_drop, h4]; omega
  have hbs : (bs (.slice (if cap = l then a else a.map (·.add (l * sz))) (h - l) (cap - l))).1 = (bs (.slice a n cap)).1 := by
    split
    · cases a <;> rfl
    · cases a with
      | none => rfl
      | some ad => simp only [Option.map_some, bs, Addr.add]; split <;> rfl
  refine ⟨⟨_, _, rfl, by omega, by unfold maxLen at *; omega, hlen, fun hpos => ?_, fun j u hu => ?_⟩, hbs⟩
  · rw [hlen] at hpos
    have hcs : 0 < cs.length := by
      rw [h4]
      exact Nat.lt_of_lt_of_le hpos (Nat.mul_le_mul_right _ (by omega))
    obtain ⟨b, off, rfl⟩ := h5 hcs
    split
    · exact ⟨_, _, rfl⟩
    · exact ⟨b, off + l * sz, by rw [Option.map_some, addr_add]⟩
  · have hu' : cs[l * sz + j]? = some u := by
      rw [List.getElem?_take] at hu
      split at hu
      · rw [List.getElem?_drop] at hu; exact hu
      · cases hu
    have hj : j < (h - l) * sz := by
      have := (List.getElem?_eq_some_iff.1 hu).1
      rw [hlen] at this; exact this
    have hne : ¬ cap = l := by
      intro e
      have : h - l = 0 := by omega
      rw [this] at hj; simp at hj
    have hcs : 0 < cs.length := by have := (List.getElem?_eq_some_iff.1 hu').1; omega
    obtain ⟨b, off, rfl⟩ := h5 hcs
    have := h6 (l * sz + j) u hu'
    rw [if_neg hne, Option.map_some, addr_add]
    show w.cell? ⟨b, off + l * sz + j, none⟩ = some u
    rw [Nat.add_assoc]; exact this

theorem run_slice {t e : TypeId} {a : Option Addr} {n cap sz l h : Nat} {lo hi : Option Value} {k k' : IntKind} (ht : P.underlying t = some (.slice e)) (hs : (P.info? e).map (·.size) = some sz)
    (hlo : lo = some (.int k (l : Int)) ∨ (lo = none ∧ l = 0)) (hhi : hi = some (.int k' (h : Int)) ∨ (hi = none ∧ h = n)) (hl : l ≤ h) (hh : h ≤ n) (hc : n ≤ cap) :
    (Instr.sliceAt t (.slice a n cap) lo hi none).run P w = .ok (.slice (if cap = l then a else a.map (·.add (l * sz))) (h - l) (cap - l)) w := by
  cases hq : P.info? e with
  | none => simp [hq] at hs
  | some inf =>
    have hs' : inf.size = sz := by simpa [hq] using hs
    have b1 : h ≤ cap := by omega
    rcases hlo with rfl | ⟨rfl, rfl⟩ <;> rcases hhi with rfl | ⟨rfl, rfl⟩ <;>
      simp [Instr.sliceAt, Instr.slice, run_underlying ht, Instr.sliceBounds, Instr.sliceBound, asIntOf, sizeOf, typeInfo, hq, hs', b1, hl] <;> (try (split <;> first | rfl | omega))
/-- x[lo:hi], either bound may be left out -/
theorem E.slc {t e : TypeId} {x : Operand} {lo hi : Option Operand} {sz n : Nat} {v : Value} {cs : List Value} {k k' : IntKind} (l h : Nat) (hx : ev env x = some v)
    (hlo : lo.map (ev env) = some (some (.int k (l : Int))) ∨ (lo = none ∧ l = 0)) (hhi : hi.map (ev env) = some (some (.int k' (h : Int))) ∨ (hi = none ∧ h = n)) (hR : Rd w sz v n cs)
    (ht : P.underlying t = some (.slice e)) (hs : (P.info? e).map (·.size) = some sz) (hl : l ≤ h) (hh : h ≤ n) (hd : Nat.blt d s.n = true)
    (hK : ∀ v', Rd w sz v' (h - l) ((cs.drop (l * sz)).take ((h - l) * sz)) → (bs v').1 = (bs v).1 → wpE P ops Q s rest ((d, v') :: env) w) : wpE P ops Q s (⟨some d, .slice t x lo hi none, ty, pos, aft, none⟩ :: rest) env w := by
  obtain ⟨a, cap, hv, hc, _⟩ := hR
  subst hv
  have hp := Rd.part (l := l) (h := h) ⟨a, cap, rfl, hc, ‹_›⟩ rfl hl hh
  refine E.op (fun a' ha => ?_) hd (hK _ hp.1 hp.2)
  have h1 : lo.map a'.eval = some (.int k (l : Int)) ∨ (lo.map a'.eval = none ∧ l = 0) := by
    rcases hlo with hlo | ⟨rfl, h0⟩
    · cases lo with
      | none => simp at hlo
      | some y => simp at hlo; left; simp [ha.ev hlo]
    · right; exact ⟨rfl, h0⟩
  have h2 : hi.map a'.eval = some (.int k' (h : Int)) ∨ (hi.map a'.eval = none ∧ h = n) := by
    rcases hhi with hhi | ⟨rfl, h0⟩
    · cases hi with
      | none => simp at hhi
      | some y => simp at hhi; left; simp [ha.ev hhi]
    · right; exact ⟨rfl, h0⟩
  have := run_slice (P := P) (w := w) (a := a) ht hs h1 h2 hl hh hc
  simp [execOp, ha.ev hx, this]
end
/-- a part of a list -/
def cutL {α : Type} (l h : Nat) (xs : List α) : List α := (xs.drop l).take (h - l)
theorem cutL_len {α : Type} (l h : Nat) (xs : List α) (hl : l ≤ h) (hh : h ≤ xs.length) : (cutL l h xs).length = h - l := by simp [cutL]; omega
theorem RdL.ofPart {α : Type} {enc : α → Value} {w : World} {v : Value} {xs : List α} {l h : Nat} (hl : l ≤ h) (hh : h ≤ xs.length) (hR : Rd w 1 v (h - l) (((xs.map enc).drop (l * 1)).take ((h - l) * 1))) : RdL enc w v (cutL l h xs) := by
  unfold RdL
  rw [cutL_len l h xs hl hh, cutL, List.map_take, List.map_drop]
  simpa using hR
end Go.Proofs.YtcmgbjmcklfkcaaDoor.Sym
