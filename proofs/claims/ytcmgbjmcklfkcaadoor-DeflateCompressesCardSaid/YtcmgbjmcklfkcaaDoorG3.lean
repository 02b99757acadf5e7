/- Texts of the claim, laid together: SymM, Sym7, Sym8. -/
import Derived.MapKept
import Derived.WideMake
import Derived.Laws.OwnMore
import Derived.Test.YtcmgbjmcklfkcaaDoorG2
/- The walk by named slots: function values, make, maps with integer keys. For whatever program. -/
namespace Go.Proofs.YtcmgbjmcklfkcaaDoor.Sym
set_option linter.unusedSimpArgs false
set_option linter.unusedVariables false
open Go.RowKit Go.MapKept

section
variable {P : Program} {ops : Array Oper} {Q : Exit → Act → World → Prop} {s : St} {env : Env} {w : World} {rest : List Oper}
variable {d : Nat} {ty : TypeId} {pos : String} {aft : Array Edge}
/-- a function value of the program with what it has captured -/
abbrev fnv (f : FuncId) (cap : List Value) : Value := .func (.func f) #[] cap.toArray
theorem E.mkfn {f : FuncId} {xs : List Operand} {vs : List Value} (hx : evl env xs = some vs) (hd : Nat.blt d s.n = true) (h : wpE P ops Q s rest ((d, fnv f vs) :: env) w) : wpE P ops Q s (⟨some d, .makeFunc (.func f) #[] xs.toArray, ty, pos, aft, none⟩ :: rest) env w :=
  E.op (fun a ha => by
    have e : xs.toArray.map a.eval = vs.toArray := by rw [List.map_toArray, ← ha.evl hx]
    simp [execOp, Instr.makeFunc]
    simpa using e) hd h
/-- a call of a function value -/
theorem E.callv {x : Operand} {f : FuncId} {xs : List Operand} {ats : Array TypeId} {vs cap : List Value} {Φ : Value → World → Prop} (hf : ev env x = some (fnv f cap)) (hx : evl env xs = some vs) (hd : Nat.blt d s.n = true) (hc : Ret P f (vs ++ cap).toArray w Φ)
    (h : ∀ v w', Φ v w' → wpE P ops Q s rest ((d, v) :: env) w') : wpE P ops Q s (⟨some d, .call ⟨.value x, xs.toArray, ats⟩, ty, pos, aft, none⟩ :: rest) env w := fun a ha =>
  wpList_plain rfl fun K hK => by
    unfold Oper.wp
    have e : xs.toArray.map a.eval = vs.toArray := by rw [List.map_toArray, ← ha.evl hx]
    have hr : (execOp a.eval ⟨some d, .call ⟨.value x, xs.toArray, ats⟩, ty, pos, aft, none⟩).run P w = .ok (.enter f (vs ++ cap).toArray) w := by
      simp only [execOp, resolve, e, ha.ev hf, Deferred.ofValue]
      have := run_callable hc.1 (vs ++ cap).toArray w
      simp [invoke]
      simpa using this
    rw [hr]
    exact Calls.mono hc.2 fun e' w' ⟨v, he, hv⟩ => by
      subst he
      exact hK _ _ (h v w' hv _ (ha.put d v hd))
end
section
variable {P : Program} {ops : Array Oper} {Q : Exit → Act → World → Prop} {s : St} {env : Env} {w : World} {rest : List Oper}
variable {d : Nat} {ty : TypeId} {pos : String} {aft : Array Edge}
theorem made_replicate (z : Value) (n : Nat) : (madeCells #[z] (n * 1)).toList = List.replicate n z := by
  apply List.ext_getElem
  · simp [madeCells]
  · intro i h1 h2
    simp [madeCells, Nat.mod_one]
/-- make of a slice of one-cell elements -/
theorem E.make {α : Type} {enc : α → Value} {t e : TypeId} {by_ : Nat} {x : Operand} {n : Nat} (z : α) (hx : ev env x = some (.int .i64 (n : Int))) (ht : P.underlying t = some (.slice e)) (hz : (P.info? e).map (fun i => (i.zero, i.size, i.bytes)) = some (some (enc z), 1, by_)) (hc : (enc z).cells = #[enc z])
    (hby : by_ * n ≤ 281474976710656) (hn : n ≤ 9223372036854775807) (B : Nat) (hB : B ≤ w.heap.size) (hd : Nat.blt d s.n = true)
    (h : ∀ v w', OwnL enc w' B e v (List.replicate n z) → Ext w w' → v.ownBlock = some w.heap.size → w'.heap.size = w.heap.size + 1 → wpE P ops Q s rest ((d, v) :: env) w') : wpE P ops Q s (⟨some d, .makeSlice t x x, ty, pos, aft, none⟩ :: rest) env w := by
  cases hq : P.info? e with
  | none => simp [hq] at hz
  | some i =>
    simp only [hq, Option.map_some, Option.some.injEq, Prod.mk.injEq] at hz
    obtain ⟨h1, h2, h3⟩ := hz
    have hb' : (i.bytes : Int) * (n : Int) ≤ 281474976710656 := by rw [h3, ← Int.natCast_mul]; omega
    have hr := run_makeSlice (P := P) (w := w) t e i (enc z) ht hq h1 .i64 .i64 (n : Int) (n : Int) (by omega) (Int.le_refl _)
    have hr' : (Instr.makeSlice t (.int .i64 (n : Int)) (.int .i64 (n : Int))).run P w = .ok (.slice (some ⟨w.heap.size, 0, none⟩) n n) (w.alloc (.cells (madeCells (enc z).cells (n * i.size)) e)) := by
      have := run_make (P := P) w t e i (enc z) ht hq h1 .i64 .i64 (n : Int) (n : Int) (by omega) (Int.le_refl _) hb' (by omega)
      simpa using this
    rw [hc, h2] at hr'
    refine E.op (v := .slice (some ⟨w.heap.size, 0, none⟩) n n) (w' := w.alloc (.cells (madeCells #[enc z] (n * 1)) e)) (fun a ha => ?_) hd (h _ _ ?_ (Ext.new w _) rfl (World.size_alloc ..))
    · simp only [execOp, ha.ev hx]
      rw [Sem.run_bind, hr']; rfl
    · refine ⟨by simp, .inr ⟨w.heap.size, n, madeCells #[enc z] (n * 1), by simp, hB, heap_alloc_new w _, by simp, by unfold maxLen; omega, by simp [madeCells], ?_⟩⟩
      rw [made_replicate]; simp
end

/-! maps with integer keys -/
section
variable {α : Type}
/-- the map at r: its entries, in the order of their making -/
def Mp (w : World) (r : Nat) (kk : IntKind) (enc : α → Value) (m : List (Int × α)) : Prop := ∃ es clock, w.heap[r]? = some (.map es clock) ∧ es.toList.map (fun e => (e.key, e.val)) = m.map (fun p => (Value.int kk p.1, enc p.2))
def aget (m : List (Int × α)) (k : Int) : Option α := match m with
  | [] => none
  | p :: m => if k = p.1 then some p.2 else aget m k
def aput (m : List (Int × α)) (k : Int) (v : α) : List (Int × α) := match m with
  | [] => [(k, v)]
  | p :: m => if k = p.1 then (k, v) :: m else p :: aput m k v
def adel (m : List (Int × α)) (k : Int) : List (Int × α) := match m with
  | [] => []
  | p :: m => if k = p.1 then m else p :: adel m k
theorem Mp.ext {w w' : World} {r : Nat} {kk : IntKind} {enc : α → Value} {m : List (Int × α)} (h : Mp w r kk enc m) (k : Ext w w') : Mp w' r kk enc m := by
  obtain ⟨es, c, h1, h2⟩ := h
  exact ⟨es, c, Ext.heap k h1, h2⟩
theorem Mp.lt {w : World} {r : Nat} {kk : IntKind} {enc : α → Value} {m : List (Int × α)} (h : Mp w r kk enc m) : r < w.heap.size := by
  obtain ⟨es, c, h1, h2⟩ := h
  exact (Array.getElem?_eq_some_iff.1 h1).1
theorem Mp.other {w w' : World} {r : Nat} {kk : IntKind} {enc : α → Value} {m : List (Int × α)} {row : Option Nat} (h : Mp w r kk enc m) (g : w.grownBy w' row) (hne : some r ≠ row) : Mp w' r kk enc m := by
  have hlt := h.lt
  obtain ⟨es, c, h1, h2⟩ := h
  obtain ⟨_, _, _, _, g5⟩ := g
  exact ⟨es, c, by rw [g5 r hlt hne]; exact h1, h2⟩
abbrev mkv (e : MapEntry) : Value × Value := (e.key, e.val)
abbrev pkv (kk : IntKind) (enc : α → Value) (p : Int × α) : Value × Value := (Value.int kk p.1, enc p.2)
theorem aput_none {m : List (Int × α)} {k : Int} (h : aget m k = none) (v : α) : aput m k v = m ++ [(k, v)] := by
  induction m with
  | nil => rfl
  | cons p m ih =>
    by_cases he : k = p.1
    · simp [aget, he] at h
    · simp only [aget, if_neg he] at h
      simp [aput, he, ih h]
theorem aget_aput (m : List (Int × α)) (k : Int) (v : α) (z : Int) : aget (aput m k v) z = if z = k then some v else aget m z := by
  induction m with
  | nil => simp only [aput, aget]
  | cons p m ih =>
    by_cases he : k = p.1
    · rw [aput, if_pos he, aget, aget]
      by_cases hz : z = k
      · rw [if_pos hz, if_pos hz]
      · rw [if_neg hz, if_neg hz, if_neg (fun e => hz (e.trans he.symm))]
    · rw [aput, if_neg he, aget, aget, ih]
      by_cases hz : z = p.1
      · rw [if_pos hz, if_pos hz, if_neg (show ¬ z = k from fun e => he (e ▸ hz))]
      · rw [if_neg hz, if_neg hz]
theorem adel_none {m : List (Int × α)} {k : Int} (h : aget m k = none) : adel m k = m := by
  induction m with
  | nil => rfl
  | cons p m ih =>
    by_cases he : k = p.1
    · simp [aget, he] at h
    · simp only [aget, if_neg he] at h
      simp [adel, he, ih h]
theorem find_now {kk : IntKind} {enc : α → Value} (k : Int) : ∀ (l : List MapEntry) (m : List (Int × α)) (i : Nat), l.map mkv = m.map (pkv kk enc) →
    (aget m k = none ∧ Instr.findNow (.int kk) (.int kk k) l i = some none) ∨ (∃ v j, aget m k = some v ∧ Instr.findNow (.int kk) (.int kk k) l i = some (some (i + j, enc v)) ∧ (l[j]?).map (·.key) = some (.int kk k) ∧
      (∀ u : α, (l.modify j fun e => { e with key := .int kk k, val := enc u }).map mkv = (aput m k u).map (pkv kk enc)) ∧ (l.eraseIdx j).map mkv = (adel m k).map (pkv kk enc))
  | [], [], i, _ => .inl ⟨rfl, rfl⟩
  | [], _ :: _, i, h => by simp at h
  | _ :: _, [], i, h => by simp at h
  | e :: l, p :: m, i, h => by
    simp only [List.map_cons, List.cons.injEq, Prod.mk.injEq] at h
    obtain ⟨⟨hk, hv⟩, ht⟩ := h
    by_cases he : k = p.1
    · refine .inr ⟨p.2, 0, by simp [aget, he], by simp [Instr.findNow, Instr.sameNow, hk, he, hv], by simp [hk, he], fun u => ?_, ?_⟩
      · simp [aput, he]; exact ht
      · simp [adel, he]; exact ht
    · have hb : (k == p.1) = false := by simpa using he
      rcases find_now k l m (i + 1) ht with ⟨h1, h2⟩ | ⟨v, j, h1, h3, h4, h5, h6⟩
      · exact .inl ⟨by simp [aget, he, h1], by simp [Instr.findNow, Instr.sameNow, hk, hb, h2]⟩
      · refine .inr ⟨v, j + 1, by simp [aget, he, h1], ?_, by simpa using h4, fun u => ?_, ?_⟩
        · simp only [Instr.findNow, Instr.sameNow, hk, if_true, hb, h3]
          congr 3; omega
        · simp only [List.modify_succ_cons, List.map_cons, aput, if_neg he, h5 u]; rw [mkv, hk, hv]
        · simp only [List.eraseIdx_cons_succ, List.map_cons, adel, if_neg he, h6]; rw [mkv, hk, hv]
section
variable {P : Program} {ops : Array Oper} {Q : Exit → Act → World → Prop} {s : St} {env : Env} {w : World} {rest : List Oper}
variable {d : Nat} {ty : TypeId} {pos : String} {aft : Array Edge}
theorem isKey_int (kk : IntKind) (k : Int) : IsKey (.int kk) (.int kk k) := by unfold IsKey; rfl
theorem Mp.new (w : World) (kk : IntKind) (enc : α → Value) : Mp (w.alloc (.map #[] 0)) w.heap.size kk enc [] := ⟨#[], 0, heap_alloc_new w _, rfl⟩
/-- a new map -/
theorem E.mkmap {t : TypeId} (kk : IntKind) (enc : α → Value) (hd : Nat.blt d s.n = true) (h : ∀ w', Mp w' w.heap.size kk enc [] → Ext w w' → w'.heap.size = w.heap.size + 1 → wpE P ops Q s rest ((d, .map (some w.heap.size)) :: env) w') : wpE P ops Q s (⟨some d, .makeMap t none, ty, pos, aft, none⟩ :: rest) env w :=
  E.op (w' := w.alloc (.map #[] 0)) (fun a ha => by
    simp only [execOp, Option.map_none]
    rw [Sem.run_bind, run_makeMap_plain]; rfl) hd (h _ (Mp.new w kk enc) (Ext.new w _) (World.size_alloc ..))
theorem run_lookup {t kt et : TypeId} {kk : IntKind} {enc : α → Value} {m : List (Int × α)} {r : Nat} {k : Int} {z : Value} (ht : P.underlying t = some (.map kt et)) (hk : P.underlying kt = some (.int kk)) (hz : (P.info? et).bind (·.zero) = some z) (hm : Mp w r kk enc m) (ok : Bool) :
    (Instr.lookup t (.map (some r)) (.int kk k) ok).run P w = .ok (if ok then .tuple #[((aget m k).map enc).getD z, .bool (aget m k).isSome] else ((aget m k).map enc).getD z) w := by
  obtain ⟨es, clock, h1, h2⟩ := hm
  have hck := run_checkKey (P := P) (w := w) hk (isKey_int kk k) es.isEmpty 9999
  rcases find_now (enc := enc) k es.toList m 0 h2 with ⟨h3, h4⟩ | ⟨v, j, h3, h4, _⟩
  · have hf := run_findKey (P := P) (w := w) hk h4
    cases hq : P.info? et with
    | none => simp [hq] at hz
    | some i =>
      have hz' : i.zero = some z := by simpa [hq] using hz
      simp [Instr.lookup, run_underlying ht, MapKept.run_getObj_map h1, hck, hf, h3, zeroValue, typeInfo, hq, hz']
  · have hf := run_findKey (P := P) (w := w) hk h4
    simp [Instr.lookup, run_underlying ht, MapKept.run_getObj_map h1, hck, hf, h3]
theorem E.lookup {t kt et : TypeId} {kk : IntKind} {enc : α → Value} {m : List (Int × α)} {r : Nat} {k : Int} {z : Value} {x y : Operand} {ok : Bool} (hx : ev env x = some (.map (some r))) (hy : ev env y = some (.int kk k)) (ht : P.underlying t = some (.map kt et)) (hk : P.underlying kt = some (.int kk)) (hz : (P.info? et).bind (·.zero) = some z) (hm : Mp w r kk enc m)
    (hd : Nat.blt d s.n = true) (h : wpE P ops Q s rest ((d, if ok then .tuple #[((aget m k).map enc).getD z, .bool (aget m k).isSome] else ((aget m k).map enc).getD z) :: env) w) : wpE P ops Q s (⟨some d, .lookup t x y ok, ty, pos, aft, none⟩ :: rest) env w :=
  E.op (fun a ha => by
    simp only [execOp, ha.ev hx, ha.ev hy]
    rw [Sem.run_bind, run_lookup ht hk hz hm ok]; rfl) hd h
theorem setMap_grown {w : World} {r : Nat} (o : Obj) : w.grownBy { w with heap := w.heap.setIfInBounds r o } (some r) :=
  ⟨rfl, rfl, rfl, by simp, fun i hi hne => by
    have : r ≠ i := fun e => hne (by rw [e])
    simp [this]⟩
theorem E.mput {t kt et : TypeId} {kk : IntKind} {enc : α → Value} {m : List (Int × α)} {r : Nat} {k : Int} {x y z : Operand} (u : α) (hx : ev env x = some (.map (some r))) (hy : ev env y = some (.int kk k)) (hz : ev env z = some (enc u)) (ht : P.underlying t = some (.map kt et)) (hk : P.underlying kt = some (.int kk)) (hm : Mp w r kk enc m)
    (h : ∀ w', Mp w' r kk enc (aput m k u) → w.grownBy w' (some r) → w'.heap.size = w.heap.size → wpE P ops Q s rest env w') : wpE P ops Q s (⟨none, .mapUpdate t x y z, ty, pos, aft, none⟩ :: rest) env w := by
  obtain ⟨es, clock, h1, h2⟩ := hm
  have hck := run_checkKey (P := P) (w := w) hk (isKey_int kk k) false 9999
  have hlt : r < w.heap.size := (Array.getElem?_eq_some_iff.1 h1).1
  rcases find_now (enc := enc) k es.toList m 0 h2 with ⟨h3, h4⟩ | ⟨v, j, h3, h4, h5, h6, _⟩
  · have hf := run_findKey (P := P) (w := w) hk h4
    refine E.op0 (w' := { w with heap := w.heap.setIfInBounds r (.map (es.push { key := .int kk k, val := enc u, born := clock }) (clock + 1)) }) (fun a ha => ?_) (h _ ⟨_, _, (heap_set h1).1, ?_⟩ (setMap_grown _) (by simp))
    · simp [execOp, ha.ev hx, ha.ev hy, ha.ev hz, Instr.mapUpdate, run_underlying ht, MapKept.run_getObj_map h1, hck, hf, MapKept.run_setObj_map _ h1]
    · rw [aput_none h3]; simp [h2]
  · have hf := run_findKey (P := P) (w := w) hk h4
    have hkey : ((es[j]?).map (·.key)).getD (.int kk k) = .int kk k := by
      have : es[j]? = es.toList[j]? := by simp
      rw [this]
      cases hq : es.toList[j]? with
      | none => rfl
      | some e => rw [hq] at h5; simpa using h5
    have hst := run_keyThatStays (P := P) (w := w) (isKey_int kk k)
    refine E.op0 (w' := { w with heap := w.heap.setIfInBounds r (.map (es.modify j fun e => { e with key := .int kk k, val := enc u }) clock) }) (fun a ha => ?_) (h _ ⟨_, _, (heap_set h1).1, ?_⟩ (setMap_grown _) (by simp))
    · have h0 : 0 + j = j := Nat.zero_add j
      rw [h0] at hf
      simp only [execOp, ha.ev hx, ha.ev hy, ha.ev hz, Instr.mapUpdate]
      simp [run_underlying ht, MapKept.run_getObj_map h1, hck, hf, hkey, hst, MapKept.run_setObj_map _ h1]
    · simpa using h6 u
theorem E.mdel {t kt et t2 : TypeId} {kk : IntKind} {enc : α → Value} {m : List (Int × α)} {r : Nat} {k : Int} {x y : Operand} (hx : ev env x = some (.map (some r))) (hy : ev env y = some (.int kk k)) (ht : P.underlying t = some (.map kt et)) (hk : P.underlying kt = some (.int kk)) (hm : Mp w r kk enc m) (hd : Nat.blt d s.n = true)
    (h : ∀ w', Mp w' r kk enc (adel m k) → w.grownBy w' (some r) → w'.heap.size = w.heap.size → wpE P ops Q s rest ((d, .tuple #[]) :: env) w') : wpE P ops Q s (⟨some d, .call ⟨.builtin .delete, #[x, y], #[t, t2]⟩, ty, pos, aft, none⟩ :: rest) env w := by
  obtain ⟨es, clock, h1, h2⟩ := hm
  have hck := run_checkKey (P := P) (w := w) hk (isKey_int kk k) es.isEmpty 9999
  rcases find_now (enc := enc) k es.toList m 0 h2 with ⟨h3, h4⟩ | ⟨v, j, h3, h4, h5, _, h6⟩
  · have hf := run_findKey (P := P) (w := w) hk h4
    refine E.op (v := .tuple #[]) (w' := { w with heap := w.heap.setIfInBounds r (.map es clock) }) (fun a ha => ?_) hd (h _ ⟨_, _, (heap_set h1).1, ?_⟩ (setMap_grown _) (by simp))
    · simp [execOp, resolve, invoke, builtin, ha.ev hx, ha.ev hy, Builtin.delete_, run_underlying ht, MapKept.run_getObj_map h1, hck, hf, MapKept.run_setObj_map _ h1]
    · rw [adel_none h3]; exact h2
  · have hf := run_findKey (P := P) (w := w) hk h4
    rw [Nat.zero_add] at hf
    refine E.op (v := .tuple #[]) (w' := { w with heap := w.heap.setIfInBounds r (.map (es.eraseIdxIfInBounds j) clock) }) (fun a ha => ?_) hd (h _ ⟨_, _, (heap_set h1).1, ?_⟩ (setMap_grown _) (by simp))
    · simp [execOp, resolve, invoke, builtin, ha.ev hx, ha.ev hy, Builtin.delete_, run_underlying ht, MapKept.run_getObj_map h1, hck, hf, MapKept.run_setObj_map _ h1]
    · simpa using h6
theorem E.lenM {t kt et : TypeId} {kk : IntKind} {enc : α → Value} {m : List (Int × α)} {r : Nat} {x : Operand} (hx : ev env x = some (.map (some r))) (ht : P.underlying t = some (.map kt et)) (hm : Mp w r kk enc m) (hd : Nat.blt d s.n = true)
    (h : wpE P ops Q s rest ((d, i64 m.length) :: env) w) : wpE P ops Q s (⟨some d, .call ⟨.builtin .len, #[x], #[t]⟩, ty, pos, aft, none⟩ :: rest) env w := by
  obtain ⟨es, clock, h1, h2⟩ := hm
  have hl : es.size = m.length := by have := congrArg List.length h2; simpa using this
  exact E.op (fun a ha => by simp [execOp, resolve, invoke, builtin, Builtin.len_, run_underlying ht, goInt, ha.ev hx, MapKept.run_getObj_map h1, hl]) hd h
end
end
end Go.Proofs.YtcmgbjmcklfkcaaDoor.Sym

/- The walk by named slots: new variables, named by their blocks. For whatever program. -/
namespace Go.Proofs.YtcmgbjmcklfkcaaDoor.Sym
set_option linter.unusedSimpArgs false
set_option linter.unusedVariables false
open Go.RowKit
/-! the end of a chain of && and ||: the truth value in the slot is that of the whole condition -/
theorem leaf_f {p : Prop} [Decidable p] (h : ¬ p) : some (Value.bool false) = some (Value.bool (decide p)) := by rw [decide_eq_false h]
theorem leaf_t {p : Prop} [Decidable p] (h : p) : some (Value.bool true) = some (Value.bool (decide p)) := by rw [decide_eq_true h]
theorem leaf_d {p q : Prop} [Decidable p] [Decidable q] (h : p ↔ q) : some (Value.bool (decide p)) = some (Value.bool (decide q)) := by rw [decide_eq_decide.2 h]
section
variable {P : Program} {ops : Array Oper} {Q : Exit → Act → World → Prop} {s : St} {env : Env} {w : World} {rest : List Oper}
variable {d : Nat} {ty : TypeId} {pos : String} {aft : Array Edge}
theorem Blk.apart {w w' : World} {b : Nat} {T : TypeId} {arr : Array Value} {r : Option Nat} (h : Blk w b T arr) (g : w.grownBy w' r) (hne : r ≠ some b) : Blk w' b T arr := by
  cases r with
  | none => exact h.ext ((Ext.refl w).grown g (fun k e => by cases e))
  | some y => exact h.other g fun e => hne (by rw [e])
/-- a truth value in a slot: both ways -/
theorem E.split {l : List Oper} {b : Bool} (t : Nat) (hb : look env t = some (.bool b)) (ht : b = true → wpE P ops Q s l ((t, .bool true) :: env) w) (hf : b = false → wpE P ops Q s l ((t, .bool false) :: env) w) : wpE P ops Q s l env w := by
  cases b with
  | true => exact E.sub (Sub.cons hb (Sub.refl env)) (ht rfl)
  | false => exact E.sub (Sub.cons hb (Sub.refl env)) (hf rfl)
abbrev pv (b : Nat) : Value := .pointer (some ⟨b, 0, none⟩)
/-- a variable that a function captures or whose address is taken, from a value -/
theorem E.boxB {T : TypeId} {x : Operand} {v : Value} {cs : List Value} (hx : ev env x = some v) (hc : v.cells = cs.toArray) (hd : Nat.blt d s.n = true)
    (h : ∀ w', Blk w' w.heap.size T cs.toArray → Ext w w' → w'.heap.size = w.heap.size + 1 → wpE P ops Q s rest ((d, pv w.heap.size) :: env) w') : wpE P ops Q s (⟨some d, .box T x, ty, pos, aft, none⟩ :: rest) env w :=
  E.box hx hd (by rw [hc]; exact h _ (Blk.new w T cs.toArray) (Ext.new w _) (World.size_alloc ..))
theorem E.allocB {T : TypeId} {z : Value} {cs : List Value} (hz : (zeroValue T).run P w = .ok z w) (hc : z.cells = cs.toArray) (hd : Nat.blt d s.n = true)
    (h : ∀ w', Blk w' w.heap.size T cs.toArray → Ext w w' → w'.heap.size = w.heap.size + 1 → wpE P ops Q s rest ((d, pv w.heap.size) :: env) w') : wpE P ops Q s (⟨some d, .alloc T, ty, pos, aft, none⟩ :: rest) env w :=
  E.alloc hz hd (by rw [hc]; exact h _ (Blk.new w T cs.toArray) (Ext.new w _) (World.size_alloc ..))
/-- a variable of one cell is set -/
theorem E.storeB {t T : TypeId} {x y : Operand} {b : Nat} {u old : Value} (hx : ev env x = some (pv b)) (hy : ev env y = some u) (hs : (P.info? t).map (·.size) = some 1) (h1 : u.oneCell' = true) (hb : Blk w b T #[old])
    (h : ∀ w', Blk w' b T #[u] → w.grownBy w' (some b) → w'.heap.size = w.heap.size → wpE P ops Q s rest env w') : wpE P ops Q s (⟨none, .store t x y, ty, pos, aft, none⟩ :: rest) env w :=
  E.store hx hy hs h1 (hb.cell 0) (hb.frozen 0) (h _ (hb.set 0 u) (grown_set w ⟨b, 0, none⟩ u) (by simp))
/-- a variable of several cells is set -/
theorem E.storeBA {t T : TypeId} {x y : Operand} {b : Nat} {cs : List Value} {cur : Array Value} (hx : ev env x = some (pv b)) (hy : ev env y = some (.agg cs.toArray)) (hs : (P.info? t).map (·.size) = some cs.length) (hb : Blk w b T cur) (hl : cur.size = cs.length) (h1 : ∀ u ∈ cs, u.oneCell' = true)
    (h : ∀ w', Blk w' b T cs.toArray → w.grownBy w' (some b) → w'.heap.size = w.heap.size → wpE P ops Q s rest env w') : wpE P ops Q s (⟨none, .store t x y, ty, pos, aft, none⟩ :: rest) env w :=
  E.storeA hx hy hs hb (by omega) h1 (by
    rw [splice_all cur cs hl]
    exact h _ (hb.setRow _) ⟨rfl, rfl, rfl, by simp [World.setRow], fun i hi hne => by
      have : b ≠ i := fun e => hne (by rw [e])
      simp [World.setRow, Array.getElem?_modify, this]⟩ (by simp [World.setRow]))
/-- a new variable, set at once -/
theorem E.varB {t T ty2 : TypeId} {y : Operand} {u z : Value} {pos2 : String} {aft2 : Array Edge} (hz : (zeroValue T).run P w = .ok z w) (hc : z.cells = #[z]) (hd : Nat.blt d s.n = true) (hy : ev ((d, pv w.heap.size) :: env) y = some u) (hs : (P.info? t).map (·.size) = some 1) (h1 : u.oneCell' = true)
    (h : ∀ w', Blk w' w.heap.size T #[u] → Ext w w' → w'.heap.size = w.heap.size + 1 → wpE P ops Q s rest ((d, pv w.heap.size) :: env) w') : wpE P ops Q s (⟨some d, .alloc T, ty, pos, aft, none⟩ :: ⟨none, .store t (.tmp d) y, ty2, pos2, aft2, none⟩ :: rest) env w :=
  E.allocB (cs := [z]) hz hc hd fun w1 hb1 hx1 hs1 => E.storeB (by show look _ d = _; rw [look_cons, if_pos rfl]) hy hs h1 hb1 fun w2 hb2 hg2 hs2 => h w2 hb2 (hx1.ofGrown hg2 (Nat.le_refl _)) (by omega)
end
end Go.Proofs.YtcmgbjmcklfkcaaDoor.Sym

/- The walk by named slots: slices of the call's own, with elements of several cells. For whatever program. -/
namespace Go.Proofs.YtcmgbjmcklfkcaaDoor.Sym
set_option linter.unusedSimpArgs false
set_option linter.unusedVariables false
open Go.RowKit

theorem Own.setAt {w : World} {B : Nat} {e : TypeId} {sz n : Nat} {v : Value} {cs : List Value} (h : Own w B e sz v n cs) {j : Nat} (hj : j < cs.length) (u : Value) : Own (w.setCell (el v j) u) B e sz v n (cs.set j u) := by
  obtain ⟨hl, h2⟩ := h
  refine ⟨by simpa using hl, ?_⟩
  rcases h2 with ⟨rfl, h0⟩ | ⟨g, cap, cur, rfl, hb, hg, hn, hm, hs, ht⟩
  · subst h0; simp at hl; subst hl; simp at hj
  · refine .inr ⟨g, cap, cur.setIfInBounds j u, rfl, hb, ?_, hn, hm, by simpa using hs, ?_⟩
    · show ((w.setCell ⟨g, 0 + j, none⟩ u).heap)[g]? = _
      rw [Nat.zero_add]; exact heap_setCell_same w g j cur e u hg
    · rw [← ht, Array.toList_setIfInBounds, List.take_set]
theorem Own.at {w : World} {B : Nat} {e : TypeId} {sz n : Nat} {v : Value} {cs : List Value} (h : Own w B e sz v n cs) {j : Nat} (hj : j < cs.length) : w.cell? (el v j) = some cs[j] ∧ w.frozen? (el v j) = false ∧ v.ownBlock = some (el v j).block := by
  refine ⟨h.rd.cell (List.getElem?_eq_getElem hj), ?_, ?_⟩
  all_goals
    obtain ⟨hl, h2⟩ := h
    rcases h2 with ⟨rfl, h0⟩ | ⟨g, cap, cur, rfl, hb, hg, r⟩
    · subst h0; simp at hl; subst hl; simp at hj
  · show w.frozen? ⟨g, 0 + j, none⟩ = false
    exact frozen_of_row w g _ cur e hg
  · rfl
section
variable {α : Type}
def OwnF (enc : α → List Value) (sz : Nat) (w : World) (B : Nat) (e : TypeId) (v : Value) (l : List α) : Prop := (∀ a ∈ l, (enc a).length = sz) ∧ Own w B e sz v l.length (l.flatMap enc)
variable {enc : α → List Value} {sz : Nat} {w w' : World} {B : Nat} {e : TypeId} {v : Value} {l : List α}
theorem OwnF.nil (enc : α → List Value) (sz : Nat) (w : World) (B : Nat) (e : TypeId) : OwnF enc sz w B e (.slice none 0 0) ([] : List α) := ⟨by simp, Own.nil w B e sz⟩
theorem OwnF.rd (h : OwnF enc sz w B e v l) : RdF enc sz w v l := ⟨h.1, Own.rd h.2⟩
theorem OwnF.kept (h : OwnF enc sz w B e v l) (k : Ext w w') : OwnF enc sz w' B e v l := ⟨h.1, Own.kept h.2 k⟩
theorem OwnF.apart {a : Value} (h : OwnF enc sz w B e v l) (g : w.grownBy w' a.ownBlock) (k : Apart a v) : OwnF enc sz w' B e v l := ⟨h.1, Own.apart h.2 g k⟩
theorem OwnF.other {r : Option Nat} (h : OwnF enc sz w B e v l) (g : w.grownBy w' r) (hne : v.ownBlock = none ∨ v.ownBlock ≠ r) : OwnF enc sz w' B e v l := ⟨h.1, Own.other h.2 g hne⟩
theorem flat_len (h : ∀ a ∈ l, (enc a).length = sz) : (l.flatMap enc).length = l.length * sz := by
  induction l with
  | nil => simp
  | cons a l ih =>
    rw [List.flatMap_cons, List.length_append, ih (fun x hx => h x (by simp [hx])), h a (by simp), List.length_cons, Nat.succ_mul]; omega
theorem flat_set {i j : Nat} {a' : α} {u : Value} : ∀ {l : List α}, (∀ a ∈ l, (enc a).length = sz) → ∀ (hi : i < l.length), j < sz → enc a' = (enc l[i]).set j u → (l.flatMap enc).set (i * sz + j) u = (l.set i a').flatMap enc := by
  induction i with
  | zero =>
    intro l h hi hj he
    cases l with
    | nil => simp at hi
    | cons a l =>
      have h1 := h a (by simp)
      simp only [List.flatMap_cons, List.set_cons_zero, Nat.zero_mul, Nat.zero_add]
      rw [List.set_append_left _ _ (by omega), he]; rfl
  | succ i ih =>
    intro l h hi hj he
    cases l with
    | nil => simp at hi
    | cons a l =>
      have h1 := h a (by simp)
      simp only [List.flatMap_cons, List.set_cons_succ]
      rw [List.set_append_right _ _ (by rw [h1, Nat.succ_mul]; omega), show (i + 1) * sz + j - (enc a).length = i * sz + j by rw [h1, Nat.succ_mul]; omega]
      rw [ih (fun x hx => h x (by simp [hx])) (by simpa using hi) hj (by simpa using he)]
theorem flat_bound {i j : Nat} (h : ∀ a ∈ l, (enc a).length = sz) (hi : i < l.length) (hj : j < sz) : i * sz + j < (l.flatMap enc).length := by
  rw [flat_len h]
  have := Nat.mul_le_mul_right sz (show i + 1 ≤ l.length from hi)
  rw [Nat.succ_mul] at this; omega
theorem OwnF.cellAt (h : OwnF enc sz w B e v l) {i : Nat} (hi : i < l.length) (j : Nat) {u : Value} (hu : (enc l[i])[j]? = some u) : w.cell? (el v (i * sz + j)) = some u ∧ w.frozen? (el v (i * sz + j)) = false ∧ v.ownBlock = some (el v (i * sz + j)).block := by
  have hj : j < sz := by have := (List.getElem?_eq_some_iff.1 hu).1; rw [h.1 _ (List.getElem_mem hi)] at this; exact this
  obtain ⟨h1, h2, h3⟩ := Own.at h.2 (flat_bound h.1 hi hj)
  exact ⟨h.rd.cell hi j hu, h2, h3⟩
theorem OwnF.set (h : OwnF enc sz w B e v l) {i : Nat} (hi : i < l.length) (j : Nat) (hj : j < sz) {u : Value} {a' : α} (he : enc a' = (enc l[i]).set j u) : OwnF enc sz (w.setCell (el v (i * sz + j)) u) B e v (l.set i a') := by
  refine ⟨fun a ha => ?_, ?_⟩
  · rcases List.mem_or_eq_of_mem_set ha with ha | rfl
    · exact h.1 a ha
    · rw [he, List.length_set]; exact h.1 _ (List.getElem_mem hi)
  · rw [List.length_set, ← flat_set h.1 hi hj he]
    exact Own.setAt h.2 (flat_bound h.1 hi hj) u
theorem OwnF.grow (h : OwnF enc sz w B e v l) {i : Nat} (hi : i < l.length) (j : Nat) {o : Value} (hu : (enc l[i])[j]? = some o) (u : Value) : w.grownBy (w.setCell (el v (i * sz + j)) u) v.ownBlock := by
  rw [(h.cellAt hi j hu).2.2]; exact grown_set w (el v (i * sz + j)) u
end
section
variable {P : Program} {ops : Array Oper} {Q : Exit → Act → World → Prop} {s : St} {env : Env} {w : World} {rest : List Oper}
variable {d : Nat} {ty : TypeId} {pos : String} {aft : Array Edge}
theorem OwnF.cellF {α : Type} {enc : α → List Value} {sz B : Nat} {e : TypeId} {v : Value} {l : List α} (h : OwnF enc sz w B e v l) {i : Nat} (hi : i < l.length) (j : Nat) {u : Value} (hu : (enc l[i])[j]? = some u) {ad : Addr} (had : ad = el v (i * sz + j)) : w.cell? ad = some u := had ▸ (h.cellAt hi j hu).1
/-- a field of an element is set -/
theorem E.storeF {α : Type} {enc : α → List Value} {sz B : Nat} {e : TypeId} {v : Value} {l : List α} {t : TypeId} {x y : Operand} {ad : Addr} {u o : Value} {i : Nat} (j : Nat) (a' : α) (hx : ev env x = some (.pointer (some ad))) (hy : ev env y = some u) (hs : (P.info? t).map (·.size) = some 1) (h1 : u.oneCell' = true)
    (hO : OwnF enc sz w B e v l) (hi : i < l.length) (had : ad = el v (i * sz + j)) (hold : (enc l[i])[j]? = some o) (he : enc a' = (enc l[i]).set j u)
    (h : ∀ w', OwnF enc sz w' B e v (l.set i a') → w.grownBy w' v.ownBlock → w'.heap.size = w.heap.size → wpE P ops Q s rest env w') : wpE P ops Q s (⟨none, .store t x y, ty, pos, aft, none⟩ :: rest) env w := by
  subst had
  have hj : j < sz := by have := (List.getElem?_eq_some_iff.1 hold).1; rw [hO.1 _ (List.getElem_mem hi)] at this; exact this
  exact E.store hx hy hs h1 (hO.cellAt hi j hold).1 (hO.cellAt hi j hold).2.1 (h _ (hO.set hi j hj he) (hO.grow hi j hold u) (by simp))
/-- append(x, y): one element of several cells more -/
theorem E.pushF {α : Type} {enc : α → List Value} {t e B : Nat} {x y : Operand} {sz by_ d2 : Nat} {ty2 : TypeId} {pos2 : String} {aft2 : Array Edge} {v : Value} {l : List α} (a : α) (hx : ev env x = some v) (hy : ev env y = some (.agg (enc a).toArray)) (ht : P.underlying t = some (.slice e)) (hE : Elem P e sz by_)
    (hown : OwnF enc sz w B e v l) (hl : (enc a).length = sz) (hsm : sz ≤ 4096) (h1 : ∀ x ∈ enc a, x.oneCell' = true) (h63 : l.length + 1 ≤ 9223372036854775807) (hby : (l.length + 1) * by_ ≤ 140737488355328) (hB : B ≤ w.heap.size)
    (hdx : x ≠ .tmp d) (hd : Nat.blt d s.n = true) (hd2 : Nat.blt d2 s.n = true)
    (h : ∀ v' w', OwnF enc sz w' B e v' (l ++ [a]) → w.grownBy w' v.ownBlock → Lies w v v' → wpE P ops Q s rest ((d2, v') :: (d, .slice (some ⟨w.heap.size, 0, none⟩) 1 1) :: env) w') :
    wpE P ops Q s (⟨some d, .buildSlice t 1 #[(0, y)], ty, pos, aft, none⟩ :: ⟨some d2, .call ⟨.builtin .append, #[x, .tmp d], #[t, t]⟩, ty2, pos2, aft2, none⟩ :: rest) env w :=
  E.push (cs := enc a) hx hy ht hE hown.2 rfl hl hsm h1 h63 hby hB hdx hd hd2 fun v' w' ho hg hli => h v' w' ⟨fun b hb => by
    rcases List.mem_append.1 hb with hb | hb
    · exact hown.1 b hb
    · have : b = a := by simpa using hb
      subst this; exact hl, by
    rw [List.length_append, List.flatMap_append]
    simpa using ho⟩ hg hli
end
end Go.Proofs.YtcmgbjmcklfkcaaDoor.Sym
