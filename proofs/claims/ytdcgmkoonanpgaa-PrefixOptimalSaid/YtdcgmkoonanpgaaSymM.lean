/- The walk by named slots: function values, make, maps with integer keys. For whatever program. -/
import Derived.Test.YtdcgmkoonanpgaaSym6
import Derived.MapKept
import Derived.WideMake
import Derived.Laws.OwnMore
namespace Go.Proofs.Ytdcgmkoonanpgaa.Sym
set_option linter.unusedSimpArgs false
set_option linter.unusedVariables false
open Go.RowKit Go.MapKept

section
variable {P : Program} {ops : Array Oper} {Q : Exit → Act → World → Prop} {s : St} {env : Env} {w : World} {rest : List Oper}
variable {d : Nat} {ty : TypeId} {pos : String} {aft : Array Edge}
/-- a function value of the program with what it has captured -/
abbrev fnv (f : FuncId) (cap : List Value) : Value := .func (.func f) #[] cap.toArray
theorem E.mkfn {f : FuncId} {xs : List Operand} {vs : List Value} (hx : evl env xs = some vs) (hd : Nat.blt d s.n = true) (h : wpE P ops Q s rest ((d, fnv f vs) :: env) w) : wpE P ops Q s (⟨some d, .makeFunc (.func f) #[] xs.toArray, ty, pos, aft, none⟩ :: rest) env w :=
  E.op (fun a ha => by
    have e : xs.toArray.map a.eval = vs.toArray := by rw [List.map_toArray, ← ha.evl hx]
    simp [execOp, Instr.makeFunc]
    simpa using e) hd h
/-- a call of a function value -/
theorem E.callv {x : Operand} {f : FuncId} {xs : List Operand} {ats : Array TypeId} {vs cap : List Value} {Φ : Value → World → Prop} (hf : ev env x = some (fnv f cap)) (hx : evl env xs = some vs) (hd : Nat.blt d s.n = true) (hc : Ret P f (vs ++ cap).toArray w Φ)
    (h : ∀ v w', Φ v w' → wpE P ops Q s rest ((d, v) :: env) w') : wpE P ops Q s (⟨some d, .call ⟨.value x, xs.toArray, ats⟩, ty, pos, aft, none⟩ :: rest) env w := fun a ha =>
  wpList_plain rfl fun K hK => by
    unfold Oper.wp
    have e : xs.toArray.map a.eval = vs.toArray := by rw [List.map_toArray, ← ha.evl hx]
    have hr : (execOp a.eval ⟨some d, .call ⟨.value x, xs.toArray, ats⟩, ty, pos, aft, none⟩).run P w = .ok (.enter f (vs ++ cap).toArray) w := by
      simp only [execOp, resolve, e, ha.ev hf, Deferred.ofValue]
      have := run_callable hc.1 (vs ++ cap).toArray w
      simp [invoke]
      simpa using this
    rw [hr]
    exact Calls.mono hc.2 fun e' w' ⟨v, he, hv⟩ => by
      subst he
      exact hK _ _ (h v w' hv _ (ha.put d v hd))
end
section
variable {P : Program} {ops : Array Oper} {Q : Exit → Act → World → Prop} {s : St} {env : Env} {w : World} {rest : List Oper}
variable {d : Nat} {ty : TypeId} {pos : String} {aft : Array Edge}
theorem made_replicate (z : Value) (n : Nat) : (madeCells #[z] (n * 1)).toList = List.replicate n z := by
  apply List.ext_getElem
  · simp [madeCells]
  · intro i h1 h2
    simp [madeCells, Nat.mod_one]
/-- make of a slice of one-cell elements -/
theorem E.make {α : Type} {enc : α → Value} {t e : TypeId} {by_ : Nat} {x : Operand} {n : Nat} (z : α) (hx : ev env x = some (.int .i64 (n : Int))) (ht : P.underlying t = some (.slice e)) (hz : (P.info? e).map (fun i => (i.zero, i.size, i.bytes)) = some (some (enc z), 1, by_)) (hc : (enc z).cells = #[enc z])
    (hby : by_ * n ≤ 281474976710656) (hn : n ≤ 9223372036854775807) (B : Nat) (hB : B ≤ w.heap.size) (hd : Nat.blt d s.n = true)
    (h : ∀ v w', OwnL enc w' B e v (List.replicate n z) → Ext w w' → v.ownBlock = some w.heap.size → w'.heap.size = w.heap.size + 1 → wpE P ops Q s rest ((d, v) :: env) w') : wpE P ops Q s (⟨some d, .makeSlice t x x, ty, pos, aft, none⟩ :: rest) env w := by
  cases hq : P.info? e with
  | none => simp [hq] at hz
  | some i =>
    simp only [hq, Option.map_some, Option.some.injEq, Prod.mk.injEq] at hz
    obtain ⟨h1, h2, h3⟩ := hz
    have hb' : (i.bytes : Int) * (n : Int) ≤ 281474976710656 := by rw [h3, ← Int.natCast_mul]; omega
    have hr := run_makeSlice (P := P) (w := w) t e i (enc z) ht hq h1 .i64 .i64 (n : Int) (n : Int) (by omega) (Int.le_refl _)
    have hr' : (Instr.makeSlice t (.int .i64 (n : Int)) (.int .i64 (n : Int))).run P w = .ok (.slice (some ⟨w.heap.size, 0, none⟩) n n) (w.alloc (.cells (madeCells (enc z).cells (n * i.size)) e)) := by
      have := run_make (P := P) w t e i (enc z) ht hq h1 .i64 .i64 (n : Int) (n : Int) (by omega) (Int.le_refl _) hb' (by omega)
      simpa using this
    rw [hc, h2] at hr'
    refine E.op (v := .slice (some ⟨w.heap.size, 0, none⟩) n n) (w' := w.alloc (.cells (madeCells #[enc z] (n * 1)) e)) (fun a ha => ?_) hd (h _ _ ?_ (Ext.new w _) rfl (World.size_alloc ..))
    · simp only [execOp, ha.ev hx]
      rw [Sem.run_bind, hr']; rfl
    · refine ⟨by simp, .inr ⟨w.heap.size, n, madeCells #[enc z] (n * 1), by simp, hB, heap_alloc_new w _, by simp, by unfold maxLen; omega, by simp [madeCells], ?_⟩⟩
      rw [made_replicate]; simp
end

/-! maps with integer keys -/
section
variable {α : Type}
/-- the map at r: its entries, in the order of their making -/
def Mp (w : World) (r : Nat) (kk : IntKind) (enc : α → Value) (m : List (Int × α)) : Prop := ∃ es clock, w.heap[r]? = some (.map es clock) ∧ es.toList.map (fun e => (e.key, e.val)) = m.map (fun p => (Value.int kk p.1, enc p.2))
def aget (m : List (Int × α)) (k : Int) : Option α := match m with
  | [] => none
  | p :: m => if k = p.1 then some p.2 else aget m k
def aput (m : List (Int × α)) (k : Int) (v : α) : List (Int × α) := match m with
  | [] => [(k, v)]
  | p :: m => if k = p.1 then (k, v) :: m else p :: aput m k v
def adel (m : List (Int × α)) (k : Int) : List (Int × α) := match m with
  | [] => []
  | p :: m => if k = p.1 then m else p :: adel m k
theorem Mp.ext {w w' : World} {r : Nat} {kk : IntKind} {enc : α → Value} {m : List (Int × α)} (h : Mp w r kk enc m) (k : Ext w w') : Mp w' r kk enc m := by
  obtain ⟨es, c, h1, h2⟩ := h
  exact ⟨es, c, Ext.heap k h1, h2⟩
theorem Mp.lt {w : World} {r : Nat} {kk : IntKind} {enc : α → Value} {m : List (Int × α)} (h : Mp w r kk enc m) : r < w.heap.size := by
  obtain ⟨es, c, h1, h2⟩ := h
  exact (Array.getElem?_eq_some_iff.1 h1).1
theorem Mp.other {w w' : World} {r : Nat} {kk : IntKind} {enc : α → Value} {m : List (Int × α)} {row : Option Nat} (h : Mp w r kk enc m) (g : w.grownBy w' row) (hne : some r ≠ row) : Mp w' r kk enc m := by
  have hlt := h.lt
  obtain ⟨es, c, h1, h2⟩ := h
  obtain ⟨_, _, _, _, g5⟩ := g
  exact ⟨es, c, by rw [g5 r hlt hne]; exact h1, h2⟩
abbrev mkv (e : MapEntry) : Value × Value := (e.key, e.val)
abbrev pkv (kk : IntKind) (enc : α → Value) (p : Int × α) : Value × Value := (Value.int kk p.1, enc p.2)
theorem aput_none {m : List (Int × α)} {k : Int} (h : aget m k = none) (v : α) : aput m k v = m ++ [(k, v)] := by
  induction m with
  | nil => rfl
  | cons p m ih =>
    by_cases he : k = p.1
    · simp [aget, he] at h
    · simp only [aget, if_neg he] at h
      simp [aput, he, ih h]
theorem aget_aput (m : List (Int × α)) (k : Int) (v : α) (z : Int) : aget (aput m k v) z = if z = k then some v else aget m z := by
  induction m with
  | nil => simp only [aput, aget]
  | cons p m ih =>
    by_cases he : k = p.1
    · rw [aput, if_pos he, aget, aget]
      by_cases hz : z = k
      · rw [if_pos hz, if_pos hz]
      · rw [if_neg hz, if_neg hz, if_neg (fun e => hz (e.trans he.symm))]
    · rw [aput, if_neg he, aget, aget, ih]
      by_cases hz : z = p.1
      · rw [if_pos hz, if_pos hz, if_neg (show ¬ z = k from fun e => he (e ▸ hz))]
      · rw [if_neg hz, if_neg hz]
theorem adel_none {m : List (Int × α)} {k : Int} (h : aget m k = none) : adel m k = m := by
  induction m with
  | nil => rfl
  | cons p m ih =>
    by_cases he : k = p.1
    · simp [aget, he] at h
    · simp only [aget, if_neg he] at h
      simp [adel, he, ih h]
theorem find_now {kk : IntKind} {enc : α → Value} (k : Int) : ∀ (l : List MapEntry) (m : List (Int × α)) (i : Nat), l.map mkv = m.map (pkv kk enc) →
    (aget m k = none ∧ Instr.findNow (.int kk) (.int kk k) l i = some none) ∨ (∃ v j, aget m k = some v ∧ Instr.findNow (.int kk) (.int kk k) l i = some (some (i + j, enc v)) ∧ (l[j]?).map (·.key) = some (.int kk k) ∧
      (∀ u : α, (l.modify j fun e => { e with key := .int kk k, val := enc u }).map mkv = (aput m k u).map (pkv kk enc)) ∧ (l.eraseIdx j).map mkv = (adel m k).map (pkv kk enc))
  | [], [], i, _ => .inl ⟨rfl, rfl⟩
  | [], _ :: _, i, h => by simp at h
  | _ :: _, [], i, h => by simp at h
  | e :: l, p :: m, i, h => by
    simp only [List.map_cons, List.cons.injEq, Prod.mk.injEq] at h
    obtain ⟨⟨hk, hv⟩, ht⟩ := h
    by_cases he : k = p.1
    · refine .inr ⟨p.2, 0, by simp [aget, he], by simp [Instr.findNow, Instr.sameNow, hk, he, hv], by simp [hk, he], fun u => ?_, ?_⟩
      · simp [aput, he]; exact ht
      · simp [adel, he]; exact ht
    · have hb : (k == p.1) = false := by simpa using he
      rcases find_now k l m (i + 1) ht with ⟨h1, h2⟩ | ⟨v, j, h1, h3, h4, h5, h6⟩
      · exact .inl ⟨by simp [aget, he, h1], by simp [Instr.findNow, Instr.sameNow, hk, hb, h2]⟩
      · refine .inr ⟨v, j + 1, by simp [aget, he, h1], ?_, by simpa using h4, fun u => ?_, ?_⟩
        · simp only [Instr.findNow, Instr.sameNow, hk, if_true, hb, h3]
          congr 3; omega
        · simp only [List.modify_succ_cons, List.map_cons, aput, if_neg he, h5 u]; rw [mkv, hk, hv]
        · simp only [List.eraseIdx_cons_succ, List.map_cons, adel, if_neg he, h6]; rw [mkv, hk, hv]
section
variable {P : Program} {ops : Array Oper} {Q : Exit → Act → World → Prop} {s : St} {env : Env} {w : World} {rest : List Oper}
variable {d : Nat} {ty : TypeId} {pos : String} {aft : Array Edge}
theorem isKey_int (kk : IntKind) (k : Int) : IsKey (.int kk) (.int kk k) := by unfold IsKey; rfl
theorem Mp.new (w : World) (kk : IntKind) (enc : α → Value) : Mp (w.alloc (.map #[] 0)) w.heap.size kk enc [] := ⟨#[], 0, heap_alloc_new w _, rfl⟩
/-- a new map -/
theorem E.mkmap {t : TypeId} (kk : IntKind) (enc : α → Value) (hd : Nat.blt d s.n = true) (h : ∀ w', Mp w' w.heap.size kk enc [] → Ext w w' → w'.heap.size = w.heap.size + 1 → wpE P ops Q s rest ((d, .map (some w.heap.size)) :: env) w') : wpE P ops Q s (⟨some d, .makeMap t none, ty, pos, aft, none⟩ :: rest) env w :=
  E.op (w' := w.alloc (.map #[] 0)) (fun a ha => by
    simp only [execOp, Option.map_none]
    rw [Sem.run_bind, run_makeMap_plain]; rfl) hd (h _ (Mp.new w kk enc) (Ext.new w _) (World.size_alloc ..))
theorem run_lookup {t kt et : TypeId} {kk : IntKind} {enc : α → Value} {m : List (Int × α)} {r : Nat} {k : Int} {z : Value} (ht : P.underlying t = some (.map kt et)) (hk : P.underlying kt = some (.int kk)) (hz : (P.info? et).bind (·.zero) = some z) (hm : Mp w r kk enc m) (ok : Bool) :
    (Instr.lookup t (.map (some r)) (.int kk k) ok).run P w = .ok (if ok then .tuple #[((aget m k).map enc).getD z, .bool (aget m k).isSome] else ((aget m k).map enc).getD z) w := by
  obtain ⟨es, clock, h1, h2⟩ := hm
  have hck := run_checkKey (P := P) (w := w) hk (isKey_int kk k) es.isEmpty 9999
  rcases find_now (enc := enc) k es.toList m 0 h2 with ⟨h3, h4⟩ | ⟨v, j, h3, h4, _⟩
  · have hf := run_findKey (P := P) (w := w) hk h4
    cases hq : P.info? et with
    | none => simp [hq] at hz
    | some i =>
      have hz' : i.zero = some z := by simpa [hq] using hz
      simp [Instr.lookup, run_underlying ht, MapKept.run_getObj_map h1, hck, hf, h3, zeroValue, typeInfo, hq, hz']
  · have hf := run_findKey (P := P) (w := w) hk h4
    simp [Instr.lookup, run_underlying ht, MapKept.run_getObj_map h1, hck, hf, h3]
theorem E.lookup {t kt et : TypeId} {kk : IntKind} {enc : α → Value} {m : List (Int × α)} {r : Nat} {k : Int} {z : Value} {x y : Operand} {ok : Bool} (hx : ev env x = some (.map (some r))) (hy : ev env y = some (.int kk k)) (ht : P.underlying t = some (.map kt et)) (hk : P.underlying kt = some (.int kk)) (hz : (P.info? et).bind (·.zero) = some z) (hm : Mp w r kk enc m)
    (hd : Nat.blt d s.n = true) (h : wpE P ops Q s rest ((d, if ok then .tuple #[((aget m k).map enc).getD z, .bool (aget m k).isSome] else ((aget m k).map enc).getD z) :: env) w) : wpE P ops Q s (⟨some d, .lookup t x y ok, ty, pos, aft, none⟩ :: rest) env w :=
  E.op (fun a ha => by
    simp only [execOp, ha.ev hx, ha.ev hy]
    rw [Sem.run_bind, run_lookup ht hk hz hm ok]; rfl) hd h
theorem setMap_grown {w : World} {r : Nat} (o : Obj) : w.grownBy { w with heap := w.heap.setIfInBounds r o } (some r) :=
  ⟨rfl, rfl, rfl, by simp, fun i hi hne => by
    have : r ≠ i := fun e => hne (by rw [e])
    simp [this]⟩
theorem E.mput {t kt et : TypeId} {kk : IntKind} {enc : α → Value} {m : List (Int × α)} {r : Nat} {k : Int} {x y z : Operand} (u : α) (hx : ev env x = some (.map (some r))) (hy : ev env y = some (.int kk k)) (hz : ev env z = some (enc u)) (ht : P.underlying t = some (.map kt et)) (hk : P.underlying kt = some (.int kk)) (hm : Mp w r kk enc m)
    (h : ∀ w', Mp w' r kk enc (aput m k u) → w.grownBy w' (some r) → w'.heap.size = w.heap.size → wpE P ops Q s rest env w') : wpE P ops Q s (⟨none, .mapUpdate t x y z, ty, pos, aft, none⟩ :: rest) env w := by
  obtain ⟨es, clock, h1, h2⟩ := hm
  have hck := run_checkKey (P := P) (w := w) hk (isKey_int kk k) false 9999
  have hlt : r < w.heap.size := (Array.getElem?_eq_some_iff.1 h1).1
  rcases find_now (enc := enc) k es.toList m 0 h2 with ⟨h3, h4⟩ | ⟨v, j, h3, h4, h5, h6, _⟩
  · have hf := run_findKey (P := P) (w := w) hk h4
    refine E.op0 (w' := { w with heap := w.heap.setIfInBounds r (.map (es.push { key := .int kk k, val := enc u, born := clock }) (clock + 1)) }) (fun a ha => ?_) (h _ ⟨_, _, (heap_set h1).1, ?_⟩ (setMap_grown _) (by simp))
    · simp [execOp, ha.ev hx, ha.ev hy, ha.ev hz, Instr.mapUpdate, run_underlying ht, MapKept.run_getObj_map h1, hck, hf, MapKept.run_setObj_map _ h1]
    · rw [aput_none h3]; simp [h2]
  · have hf := run_findKey (P := P) (w := w) hk h4
    have hkey : ((es[j]?).map (·.key)).getD (.int kk k) = .int kk k := by
      have : es[j]? = es.toList[j]? := by simp
      rw [this]
      cases hq : es.toList[j]? with
      | none => rfl
      | some e => rw [hq] at h5; simpa using h5
    have hst := run_keyThatStays (P := P) (w := w) (isKey_int kk k)
    refine E.op0 (w' := { w with heap := w.heap.setIfInBounds r (.map (es.modify j fun e => { e with key := .int kk k, val := enc u }) clock) }) (fun a ha => ?_) (h _ ⟨_, _, (heap_set h1).1, ?_⟩ (setMap_grown _) (by simp))
    · have h0 : 0 + j = j := Nat.zero_add j
      rw [h0] at hf
      simp only [execOp, ha.ev hx, ha.ev hy, ha.ev hz, Instr.mapUpdate]
      simp [run_underlying ht, MapKept.run_getObj_map h1, hck, hf, hkey, hst, MapKept.run_setObj_map _ h1]
    · simpa using h6 u
theorem E.mdel {t kt et t2 : TypeId} {kk : IntKind} {enc : α → Value} {m : List (Int × α)} {r : Nat} {k : Int} {x y : Operand} (hx : ev env x = some (.map (some r))) (hy : ev env y = some (.int kk k)) (ht : P.underlying t = some (.map kt et)) (hk : P.underlying kt = some (.int kk)) (hm : Mp w r kk enc m) (hd : Nat.blt d s.n = true)
    (h : ∀ w', Mp w' r kk enc (adel m k) → w.grownBy w' (some r) → w'.heap.size = w.heap.size → wpE P ops Q s rest ((d, .tuple #[]) :: env) w') : wpE P ops Q s (⟨some d, .call ⟨.builtin .delete, #[x, y], #[t, t2]⟩, ty, pos, aft, none⟩ :: rest) env w := by
  obtain ⟨es, clock, h1, h2⟩ := hm
  have hck := run_checkKey (P := P) (w := w) hk (isKey_int kk k) es.isEmpty 9999
  rcases find_now (enc := enc) k es.toList m 0 h2 with ⟨h3, h4⟩ | ⟨v, j, h3, h4, h5, _, h6⟩
  · have hf := run_findKey (P := P) (w := w) hk h4
    refine E.op (v := .tuple #[]) (w' := { w with heap := w.heap.setIfInBounds r (.map es clock) }) (fun a ha => ?_) hd (h _ ⟨_, _, (heap_set h1).1, ?_⟩ (setMap_grown _) (by simp))
    · simp [execOp, resolve, invoke, builtin, ha.ev hx, ha.ev hy, Builtin.delete_, run_underlying ht, MapKept.run_getObj_map h1, hck, hf, MapKept.run_setObj_map _ h1]
    · rw [adel_none h3]; exact h2
  · have hf := run_findKey (P := P) (w := w) hk h4
    rw [Nat.zero_add] at hf
    refine E.op (v := .tuple #[]) (w' := { w with heap := w.heap.setIfInBounds r (.map (es.eraseIdxIfInBounds j) clock) }) (fun a ha => ?_) hd (h _ ⟨_, _, (heap_set h1).1, ?_⟩ (setMap_grown _) (by simp))
    · simp [execOp, resolve, invoke, builtin, ha.ev hx, ha.ev hy, Builtin.delete_, run_underlying ht, MapKept.run_getObj_map h1, hck, hf, MapKept.run_setObj_map _ h1]
    · simpa using h6
theorem E.lenM {t kt et : TypeId} {kk : IntKind} {enc : α → Value} {m : List (Int × α)} {r : Nat} {x : Operand} (hx : ev env x = some (.map (some r))) (ht : P.underlying t = some (.map kt et)) (hm : Mp w r kk enc m) (hd : Nat.blt d s.n = true)
    (h : wpE P ops Q s rest ((d, i64 m.length) :: env) w) : wpE P ops Q s (⟨some d, .call ⟨.builtin .len, #[x], #[t]⟩, ty, pos, aft, none⟩ :: rest) env w := by
  obtain ⟨es, clock, h1, h2⟩ := hm
  have hl : es.size = m.length := by have := congrArg List.length h2; simpa using this
  exact E.op (fun a ha => by simp [execOp, resolve, invoke, builtin, Builtin.len_, run_underlying ht, goInt, ha.ev hx, MapKept.run_getObj_map h1, hl]) hd h
end
end
end Go.Proofs.Ytdcgmkoonanpgaa.Sym
