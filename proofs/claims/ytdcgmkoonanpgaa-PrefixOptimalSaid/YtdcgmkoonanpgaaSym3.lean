/- The walk by named slots: memory. Slices that are read, blocks of the call's own, slices that it makes. For whatever program. -/
import Derived.Test.YtdcgmkoonanpgaaSym2
namespace Go.Proofs.Ytdcgmkoonanpgaa.Sym
set_option linter.unusedSimpArgs false
set_option linter.unusedVariables false
open Go.RowKit

/-- nothing that was there has turned -/
abbrev Ext (w w' : World) : Prop := Below w.heap.size w w'
theorem Ext.refl (w : World) : Ext w w := Below.refl _ _
theorem Ext.trans {a b c : World} (h : Ext a b) (k : Ext b c) : Ext a c := Below.trans h (k.mono h.size)
theorem Ext.alloc {a w : World} (h : Ext a w) (o : Obj) : Ext a (w.alloc o) := Below.alloc h h.size o
theorem Ext.new (w : World) (o : Obj) : Ext w (w.alloc o) := (Ext.refl w).alloc o
theorem Ext.drew {a w : World} (h : Ext a w) : Ext a w.drew := Below.drew h
theorem Ext.grown {a w w' : World} {row : Option Nat} (h : Ext a w) (hg : w.grownBy w' row) (hr : ∀ k, row = some k → a.heap.size ≤ k) : Ext a w' := Below.grown h hg h.size hr
theorem Ext.heap {w w' : World} (h : Ext w w') {b : Nat} {o : Obj} (hb : w.heap[b]? = some o) : w'.heap[b]? = some o := by
  rw [h.block b (Array.getElem?_eq_some_iff.1 hb).1]; exact hb

/-- cells in a row -/
def At (w : World) (b off : Nat) (cs : List Value) : Prop := ∀ j u, cs[j]? = some u → w.cell? ⟨b, off + j, none⟩ = some u
theorem At.ext {w w' : World} {b off : Nat} {cs : List Value} (h : At w b off cs) (k : Ext w w') : At w' b off cs := fun j u hu => by
  have h1 := h j u hu
  rw [k.cell (World.block_lt_of_cell? w ⟨b, off + j, none⟩ h1)]; exact h1
def bs (v : Value) : Nat × Nat := match v with | .slice (some a) _ _ => (a.block, a.off) | _ => (0, 0)
/-- the address of the j-th cell of a slice -/
def el (v : Value) (j : Nat) : Addr := ⟨(bs v).1, (bs v).2 + j, none⟩
/-- a slice of n elements of sz cells each, whose cells are cs -/
def Rd (w : World) (sz : Nat) (v : Value) (n : Nat) (cs : List Value) : Prop :=
  ∃ a cap, v = .slice a n cap ∧ n ≤ cap ∧ cap ≤ maxLen ∧ cs.length = n * sz ∧ (0 < cs.length → (∃ b off, a = some ⟨b, off, none⟩)) ∧ At w (bs v).1 (bs v).2 cs
theorem Rd.ext {w w' : World} {sz n : Nat} {v : Value} {cs : List Value} (h : Rd w sz v n cs) (k : Ext w w') : Rd w' sz v n cs := by
  obtain ⟨a, cap, h1, h2, h3, h4, h5, h6⟩ := h
  exact ⟨a, cap, h1, h2, h3, h4, h5, h6.ext k⟩
theorem Rd.len {w : World} {sz n : Nat} {v : Value} {cs : List Value} (h : Rd w sz v n cs) : cs.length = n * sz := h.choose_spec.choose_spec.2.2.2.1
theorem Rd.le {w : World} {sz n : Nat} {v : Value} {cs : List Value} (h : Rd w sz v n cs) : n ≤ 9223372036854775807 := by
  obtain ⟨a, cap, h1, h2, h3, _⟩ := h
  unfold maxLen at h3; omega
theorem Rd.cell {w : World} {sz n : Nat} {v : Value} {cs : List Value} (h : Rd w sz v n cs) {j : Nat} {u : Value} (hu : cs[j]? = some u) : w.cell? (el v j) = some u := by
  obtain ⟨a, cap, h1, h2, h3, h4, h5, h6⟩ := h
  exact h6 j u hu
theorem Rd.shape {w : World} {sz n : Nat} {v : Value} {cs : List Value} (h : Rd w sz v n cs) : ∃ a cap, v = .slice a n cap := by
  obtain ⟨a, cap, h1, _⟩ := h; exact ⟨a, cap, h1⟩

/-- slices of one-cell elements, as lists -/
def RdL {α : Type} (enc : α → Value) (w : World) (v : Value) (l : List α) : Prop := Rd w 1 v l.length (l.map enc)
theorem RdL.ext {α : Type} {enc : α → Value} {w w' : World} {v : Value} {l : List α} (h : RdL enc w v l) (k : Ext w w') : RdL enc w' v l := Rd.ext h k
theorem RdL.cell {α : Type} {enc : α → Value} {w : World} {v : Value} {l : List α} (h : RdL enc w v l) {j : Nat} (hj : j < l.length) : w.cell? (el v j) = some (enc l[j]) :=
  Rd.cell h (by simp [hj])
abbrev u8 (c : UInt8) : Value := .int .u8 (c.toNat : Int)
abbrev i64 (n : Int) : Value := .int .i64 n
theorem RdL.nil {α : Type} (enc : α → Value) (w : World) : RdL enc w (.slice none 0 0) ([] : List α) := ⟨none, 0, rfl, by simp, by unfold maxLen; omega, by simp, by simp, fun j u h => by simp at h⟩

/-- a block of cells, none of them frozen -/
def Blk (w : World) (b : Nat) (T : TypeId) (arr : Array Value) : Prop := w.heap[b]? = some (.cells arr T (0, 0))
theorem Blk.lt {w : World} {b : Nat} {T : TypeId} {arr : Array Value} (h : Blk w b T arr) : b < w.heap.size := (Array.getElem?_eq_some_iff.1 h).1
theorem Blk.cell {w : World} {b : Nat} {T : TypeId} {arr : Array Value} (h : Blk w b T arr) (j : Nat) : w.cell? ⟨b, j, none⟩ = arr[j]? := cell_of_row w b j arr T (0, 0) h
theorem Blk.frozen {w : World} {b : Nat} {T : TypeId} {arr : Array Value} (h : Blk w b T arr) (j : Nat) : w.frozen? ⟨b, j, none⟩ = false := frozen_of_row w b j arr T h
theorem Blk.ext {w w' : World} {b : Nat} {T : TypeId} {arr : Array Value} (h : Blk w b T arr) (k : Ext w w') : Blk w' b T arr := Ext.heap k h
theorem Blk.new (w : World) (T : TypeId) (arr : Array Value) : Blk (w.alloc (.cells arr T)) w.heap.size T arr := heap_alloc_new w _
theorem Blk.alloc {w : World} {b : Nat} {T : TypeId} {arr : Array Value} (h : Blk w b T arr) (o : Obj) : Blk (w.alloc o) b T arr := h.ext (Ext.new w o)
theorem Blk.set {w : World} {b : Nat} {T : TypeId} {arr : Array Value} (h : Blk w b T arr) (j : Nat) (u : Value) : Blk (w.setCell ⟨b, j, none⟩ u) b T (arr.setIfInBounds j u) := heap_setCell_same w b j arr T u h
theorem Blk.setOther {w : World} {b : Nat} {T : TypeId} {arr : Array Value} (h : Blk w b T arr) {p : Addr} (hne : b ≠ p.block) (u : Value) : Blk (w.setCell p u) b T arr := by
  unfold Blk; rw [heap_setCell_other w p b u hne]; exact h
theorem Blk.at {w : World} {b : Nat} {T : TypeId} {arr : Array Value} (h : Blk w b T arr) (off : Nat) (cs : List Value) (hc : ∀ j u, cs[j]? = some u → arr[off + j]? = some u) : At w b off cs := fun j u hu => by
  rw [h.cell]; exact hc j u hu
theorem Ext.setCell {a w : World} (h : Ext a w) {p : Addr} (hp : a.heap.size ≤ p.block) (u : Value) : Ext a (w.setCell p u) := Below.setCell h hp u
/-- cells of a row replaced -/
def splice (cur : Array Value) (off : Nat) (new : List Value) : Array Value := (cur.toList.take off ++ new ++ cur.toList.drop (off + new.length)).toArray
theorem splice_all (cur : Array Value) (new : List Value) (h : cur.size = new.length) : splice cur 0 new = new.toArray := by
  have : List.drop new.length cur.toList = [] := List.drop_eq_nil_of_le (by simp [h])
  simp [splice, this]
theorem Blk.setRow {w : World} {b : Nat} {T : TypeId} {arr : Array Value} (h : Blk w b T arr) (new : Array Value) : Blk (w.setRow b new) b T new := setRow_heap w b arr new T _ h
theorem Blk.setRowOther {w : World} {b b' : Nat} {T : TypeId} {arr : Array Value} (h : Blk w b T arr) (hne : b ≠ b') (new : Array Value) : Blk (w.setRow b' new) b T arr := by
  unfold Blk; rw [setRow_other w b' b new hne]; exact h
theorem setRow_alloc (w : World) (z cs : Array Value) (t : TypeId) : (w.alloc (.cells z t)).setRow w.heap.size cs = w.alloc (.cells cs t) := by
  have h : ((w.alloc (.cells z t)).setRow w.heap.size cs).heap = (w.alloc (.cells cs t)).heap := by
    apply Array.ext_getElem?
    intro i
    by_cases e : i = w.heap.size
    · subst e
      rw [setRow_heap _ _ z cs t (0, 0) (heap_alloc_new w _), heap_alloc_new]
    · rw [setRow_other _ _ _ _ e]
      show (w.heap.push _)[i]? = (w.heap.push _)[i]?
      rw [Array.getElem?_push, Array.getElem?_push, if_neg e, if_neg e]
  show ({ w with heap := ((w.alloc (.cells z t)).setRow w.heap.size cs).heap } : World) = _
  rw [h]; rfl
theorem Ext.setRow {a w : World} (h : Ext a w) {b : Nat} (hp : a.heap.size ≤ b) (new : Array Value) : Ext a (w.setRow b new) :=
  Below.trans h ⟨rfl, rfl, rfl, by simp, fun k hk => setRow_other w b k new (by omega)⟩

section
variable {P : Program} {ops : Array Oper} {Q : Exit → Act → World → Prop} {s : St} {env : Env} {w : World} {rest : List Oper}
variable {d : Nat} {ty : TypeId} {pos : String} {aft : Array Edge}

theorem E.len {t e : TypeId} {x : Operand} {sz n : Nat} {v : Value} {cs : List Value} (hx : ev env x = some v) (hR : Rd w sz v n cs) (ht : P.underlying t = some (.slice e)) (hd : Nat.blt d s.n = true)
    (h : wpE P ops Q s rest ((d, .int .i64 (n : Int)) :: env) w) : wpE P ops Q s (⟨some d, .call ⟨.builtin .len, #[x], #[t]⟩, ty, pos, aft, none⟩ :: rest) env w := by
  obtain ⟨a, cap, rfl⟩ := hR.shape
  exact E.op (fun a' ha => by simp [execOp, resolve, invoke, builtin, Builtin.len_, run_underlying ht, goInt, ha.ev hx]) hd h
theorem E.lenv {t e : TypeId} {x : Operand} {n : Nat} {v : Value} (hx : ev env x = some v) (hR : ∃ a cap, v = .slice a n cap) (ht : P.underlying t = some (.slice e)) (hd : Nat.blt d s.n = true)
    (h : wpE P ops Q s rest ((d, .int .i64 (n : Int)) :: env) w) : wpE P ops Q s (⟨some d, .call ⟨.builtin .len, #[x], #[t]⟩, ty, pos, aft, none⟩ :: rest) env w := by
  obtain ⟨a, cap, rfl⟩ := hR
  exact E.op (fun a' ha => by simp [execOp, resolve, invoke, builtin, Builtin.len_, run_underlying ht, goInt, ha.ev hx]) hd h
theorem E.lenS {t : TypeId} {x : Operand} {b : ByteArray} (hx : ev env x = some (.string b)) (ht : P.underlying t = some .string) (hd : Nat.blt d s.n = true)
    (h : wpE P ops Q s rest ((d, .int .i64 (b.size : Int)) :: env) w) : wpE P ops Q s (⟨some d, .call ⟨.builtin .len, #[x], #[t]⟩, ty, pos, aft, none⟩ :: rest) env w :=
  E.op (fun a' ha => by simp [execOp, resolve, invoke, builtin, Builtin.len_, run_underlying ht, goInt, ha.ev hx]) hd h
theorem addr_add (b off k : Nat) : (⟨b, off, none⟩ : Addr).add k = ⟨b, off + k, none⟩ := by
  unfold Addr.add; split
  · rename_i h; subst h; rfl
  · rfl
/-- the address of an element of a slice -/
theorem E.idx {t e : TypeId} {x ix : Operand} {k : IntKind} {i : Int} {sz n : Nat} {v : Value} {cs : List Value} (hx : ev env x = some v) (hi : ev env ix = some (.int k i)) (hR : Rd w sz v n cs)
    (ht : P.underlying t = some (.slice e)) (hs : (P.info? e).map (·.size) = some sz) (h0 : 0 ≤ i) (h1 : i < n) (hsz : 0 < sz) (hd : Nat.blt d s.n = true)
    (h : wpE P ops Q s rest ((d, .pointer (some (el v (i.toNat * sz)))) :: env) w) : wpE P ops Q s (⟨some d, .indexAddr t x ix, ty, pos, aft, none⟩ :: rest) env w := by
  obtain ⟨a, cap, rfl, hc1, hc2, hl, ha0, hat⟩ := hR
  have hpos : 0 < cs.length := by rw [hl]; exact Nat.mul_pos (by omega) hsz
  obtain ⟨b, off, rfl⟩ := ha0 hpos
  refine E.op (fun a' ha => ?_) hd h
  cases hq : P.info? e with
  | none => simp [hq] at hs
  | some inf =>
    have hs' : inf.size = sz := by simpa [hq] using hs
    simp [execOp, ha.ev hx, ha.ev hi, Instr.indexAt, asIntOf, run_underlying ht, sizeOf, typeInfo, hq, hs', h0, h1, addr_add, el, bs]
/-- an element of one cell -/
theorem E.load {t : TypeId} {x : Operand} {ad : Addr} {u : Value} {ds : TypeDesc} (hx : ev env x = some (.pointer (some ad))) (ht : P.underlying t = some ds) (hna : (match ds with | .struct _ | .array _ _ => true | _ => false) = false)
    (hc : w.cell? ad = some u) (hd : Nat.blt d s.n = true) (h : wpE P ops Q s rest ((d, u) :: env) w) : wpE P ops Q s (⟨some d, .load t x, ty, pos, aft, none⟩ :: rest) env w :=
  E.op (fun a' ha => by
    have hagg : (isAgg t).run P w = .ok false w := by
      unfold isAgg
      rw [Sem.run_bind, run_underlying ht w]
      cases ds <;> simp_all
    simp [execOp, ha.ev hx, Instr.loadAt, Instr.sureAddr, loadVar, hagg, hc]) hd h
/-- a struct or an array, whole -/
theorem E.loadA {t : TypeId} {x : Operand} {b off : Nat} {cs : List Value} {ds : TypeDesc} (hx : ev env x = some (.pointer (some ⟨b, off, none⟩))) (ht : P.underlying t = some ds) (hna : (match ds with | .struct _ | .array _ _ => true | _ => false) = true)
    (hs : (P.info? t).map (·.size) = some cs.length) (hc : At w b off cs) (hd : Nat.blt d s.n = true) (h : wpE P ops Q s rest ((d, .agg cs.toArray) :: env) w) : wpE P ops Q s (⟨some d, .load t x, ty, pos, aft, none⟩ :: rest) env w :=
  E.op (fun a' ha => by
    have hagg : (isAgg t).run P w = .ok true w := by
      unfold isAgg
      rw [Sem.run_bind, run_underlying ht w]
      cases ds <;> simp_all
    have hl : (loadCells ⟨b, off, none⟩ cs.length).run P w = .ok cs.toArray w := run_loadCells_list (P := P) w ⟨b, off, none⟩ cs (fun j v hv => by rw [addr_add]; exact hc j v hv)
    cases hq : P.info? t with
    | none => simp [hq] at hs
    | some inf =>
      have hs' : inf.size = cs.length := by simpa [hq] using hs
      simp [execOp, ha.ev hx, Instr.loadAt, Instr.sureAddr, loadVar, hagg, sizeOf, typeInfo, hq, hs', hl]) hd h
theorem E.store {t : TypeId} {x y : Operand} {ad : Addr} {u old : Value} (hx : ev env x = some (.pointer (some ad))) (hy : ev env y = some u) (hs : (P.info? t).map (·.size) = some 1) (h1 : u.oneCell' = true)
    (hc : w.cell? ad = some old) (hf : w.frozen? ad = false) (h : wpE P ops Q s rest env (w.setCell ad u)) : wpE P ops Q s (⟨none, .store t x y, ty, pos, aft, none⟩ :: rest) env w :=
  E.op0 (fun a' ha => by
    cases hq : P.info? t with
    | none => simp [hq] at hs
    | some inf =>
      have hs' : inf.size = 1 := by simpa [hq] using hs
      have hadd : ad.add 0 = ad := by simp [Addr.add]
      have hcs : u.cells = #[u] := by cases u <;> simp_all [Value.cells, Value.oneCell']
      simp only [execOp, ha.ev hx, ha.ev hy, Instr.storeAt, Instr.sureAddr, storeVar]
      cases u <;> simp_all [sizeOf, typeInfo, storeCells, Go.store, Sem.run, Value.oneCell']) h
theorem E.alloc {t : TypeId} {z : Value} (hz : (zeroValue t).run P w = .ok z w) (hd : Nat.blt d s.n = true) (h : wpE P ops Q s rest ((d, .pointer (some ⟨w.heap.size, 0, none⟩)) :: env) (w.alloc (.cells z.cells t))) : wpE P ops Q s (⟨some d, .alloc t, ty, pos, aft, none⟩ :: rest) env w :=
  E.op (fun a' ha => by simp [execOp, Instr.alloc, hz, newVar, newRow, newObj]; rfl) hd h
theorem E.box {t : TypeId} {x : Operand} {v : Value} (hx : ev env x = some v) (hd : Nat.blt d s.n = true) (h : wpE P ops Q s rest ((d, .pointer (some ⟨w.heap.size, 0, none⟩)) :: env) (w.alloc (.cells v.cells t))) : wpE P ops Q s (⟨some d, .box t x, ty, pos, aft, none⟩ :: rest) env w :=
  E.op (fun a' ha => by simp [execOp, Instr.box, newVar, newRow, newObj, ha.ev hx]; rfl) hd h
/-- an element of one cell of a slice is read -/
theorem E.get {α : Type} {enc : α → Value} {l : List α} {t e t2 ty2 : TypeId} {x ix : Operand} {kd : IntKind} {i : Int} {v : Value} {ds : TypeDesc} {d2 : Nat} {pos2 : String} {aft2 : Array Edge} (k : Nat)
    (hx : ev env x = some v) (hi : ev env ix = some (.int kd i)) (hR : RdL enc w v l) (hk : i = (k : Int)) (h1 : k < l.length)
    (ht : P.underlying t = some (.slice e)) (hs : (P.info? e).map (·.size) = some 1) (ht2 : P.underlying t2 = some ds) (hna : (match ds with | .struct _ | .array _ _ => true | _ => false) = false)
    (hd : Nat.blt d s.n = true) (hd2 : Nat.blt d2 s.n = true) (h : wpE P ops Q s rest ((d2, enc l[k]) :: (d, .pointer (some (el v k))) :: env) w) :
    wpE P ops Q s (⟨some d, .indexAddr t x ix, ty, pos, aft, none⟩ :: ⟨some d2, .load t2 (.tmp d), ty2, pos2, aft2, none⟩ :: rest) env w := by
  subst hk
  have e0 : (k : Int).toNat * 1 = k := by omega
  refine E.idx hx hi hR ht hs (by omega) (by omega) (by decide) hd ?_
  rw [e0]
  exact E.load (by show look _ d = _; rw [look_cons, if_pos rfl]) ht2 hna (hR.cell h1) hd2 h
/-- the address of an element of an array variable -/
theorem E.idxA {t e : TypeId} {x ix : Operand} {k : IntKind} {i : Int} {sz n b off : Nat} (hx : ev env x = some (.pointer (some ⟨b, off, none⟩))) (hi : ev env ix = some (.int k i))
    (ht : P.underlying t = some (.array n e)) (hs : (P.info? e).map (·.size) = some sz) (h0 : 0 ≤ i) (h1 : i < n) (hd : Nat.blt d s.n = true)
    (h : wpE P ops Q s rest ((d, .pointer (some ⟨b, off + i.toNat * sz, none⟩)) :: env) w) : wpE P ops Q s (⟨some d, .indexAddr t x ix, ty, pos, aft, none⟩ :: rest) env w := by
  refine E.op (fun a' ha => ?_) hd h
  cases hq : P.info? e with
  | none => simp [hq] at hs
  | some inf =>
    have hs' : inf.size = sz := by simpa [hq] using hs
    simp [execOp, ha.ev hx, ha.ev hi, Instr.indexAt, Instr.sureAddr, asIntOf, run_underlying ht, sizeOf, typeInfo, hq, hs', h0, h1, addr_add]
/-- a struct or an array stored whole into a block of the call's own -/
theorem E.storeA {t T : TypeId} {x y : Operand} {b off : Nat} {cs : List Value} {cur : Array Value} (hx : ev env x = some (.pointer (some ⟨b, off, none⟩))) (hy : ev env y = some (.agg cs.toArray)) (hs : (P.info? t).map (·.size) = some cs.length)
    (hb : Blk w b T cur) (hfit : off + cs.length ≤ cur.size) (h1 : ∀ u ∈ cs, u.oneCell' = true) (h : wpE P ops Q s rest env (w.setRow b (splice cur off cs))) : wpE P ops Q s (⟨none, .store t x y, ty, pos, aft, none⟩ :: rest) env w :=
  E.op0 (fun a' ha => by
    have hst := run_storeCells_at P b off T cs 0 cur w hb (by simpa using hfit) h1
    cases hq : P.info? t with
    | none => simp [hq] at hs
    | some inf =>
      have hs' : inf.size = cs.length := by simpa [hq] using hs
      simp only [Nat.add_zero] at hst
      simp [execOp, ha.ev hx, ha.ev hy, Instr.storeAt, Instr.sureAddr, storeVar, sizeOf, typeInfo, hq, hs', Value.cells, hst, splice]) h
theorem retA {fn : Func} {n t T : Nat} {ty : TypeId} {b : Nat} {cs : List Value} {ds : TypeDesc} {Φ : Value → World → Prop} (hres : fn.results = #[.cell t ty]) (hv : look env t = some (.pointer (some ⟨b, 0, none⟩)))
    (ht : P.underlying ty = some ds) (hna : (match ds with | .struct _ | .array _ _ => true | _ => false) = true) (hb : Blk w b T cs.toArray) (hs : (P.info? ty).map (·.size) = some cs.length) (h : Φ (.agg cs.toArray) w) :
    wpX .ret (bodyPost P fn (RetPost Φ)) ⟨n, []⟩ env w :=
  retG (fun a ha => results_cell_row hres a.tmps w b T cs.toArray (0, 0) ds (by simp [ha.get t _ hv]) hb ht hna (by simpa using hs)) h
end
end Go.Proofs.Ytdcgmkoonanpgaa.Sym
