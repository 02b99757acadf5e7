/- The walk by named slots: rows of bytes that a conversion made (their mark lies behind them), and append onto them. For whatever program. -/
import Derived.Test.YtplbgehpohdmdaaGreatDoorW3
import Derived.Test.YtplbgehpohdmdaaGreatDoorW4
set_option linter.unusedSimpArgs false
set_option linter.unusedVariables false
namespace Go.Proofs.YtplbgehpohdmdaaGreatDoor.Sym
open Go.RowKit
def OwnZ (w : World) (e : TypeId) (v : Value) (l : List UInt8) : Prop :=
 ∃ g cap cur fz, v = .slice (some ⟨g, 0, none⟩) l.length cap ∧ w.heap[g]? = some (.cells cur e fz) ∧ (∀ j, j < cap → ¬ (fz.1 ≤ j ∧ j < fz.2)) ∧ l.length ≤ cap ∧ cap ≤ maxLen ∧ cur.size = cap ∧ cur.toList.take l.length = l.map u8
theorem OwnZ.rd {w : World} {e : TypeId} {v : Value} {l : List UInt8} (h : OwnZ w e v l) : RdL u8 w v l := by
 obtain ⟨g, cap, cur, fz, rfl, hg, _, hn, hm, hs, ht⟩ := h
 refine ⟨some ⟨g, 0, none⟩, cap, rfl, hn, hm, by simp, fun _ => ⟨_, _, rfl⟩, fun j u hu => ?_⟩
 show w.cell? ⟨g, 0 + j, none⟩ = _
 rw [Nat.zero_add, cell_of_row w g j cur e fz hg]
 rw [← ht, List.getElem?_take] at hu
 split at hu
 · simpa using hu
 · cases hu
def Rg.sz (e : TypeId) (v : Value) (l : List UInt8) : Rg where
 fp k := v.ownBlock = some k
 ok w := OwnZ w e v l
 keep {w w'} hk h := by
  obtain ⟨g, cap, cur, fz, hv, hg, r⟩ := h
  exact ⟨g, cap, cur, fz, hv, by rw [hk g (by rw [hv]; rfl)]; exact hg, r⟩
 live {w} h k hk := by
  obtain ⟨g, cap, cur, fz, rfl, hg, _⟩ := h
  simp [Value.ownBlock] at hk
  subst hk
  exact (Array.getElem?_eq_some_iff.1 hg).1
section
variable {w0 w w' : World} {S : Nat → Prop} {rs : List Rg}
theorem M.sz {e : TypeId} {v : Value} {l : List UInt8} (h : M w0 S w rs) (i : Nat) (hi : rs[i]? = some (Rg.sz e v l)) : RdL u8 w v l := OwnZ.rd (h.ok hi)
end
theorem storeZ (P : Program) (g o : Nat) (t : TypeId) (fz : Nat × Nat) : ∀ (vs : List Value) (i : Nat) (cur : Array Value) (w : World), w.heap[g]? = some (.cells cur t fz) → (∀ j, j < cur.size → ¬ (fz.1 ≤ j ∧ j < fz.2)) → o + i + vs.length ≤ cur.size → (∀ v ∈ vs, v.oneCell' = true) →
    ∃ cur', (storeCells ⟨g, o, none⟩ vs i).run P w = .ok () (w.setRow g cur') ∧ cur'.size = cur.size ∧ cur'.toList.take (o + i + vs.length) = cur.toList.take (o + i) ++ vs := by
  intro vs
  induction vs with
  | nil => exact fun i cur w hg _ _ _ => ⟨cur, by rw [setRow_self w g cur t fz hg]; rfl, rfl, by simp⟩
  | cons v r ih =>
    intro i cur w hg hf hl h1
    rw [List.length_cons] at hl
    have hi : o + i < cur.size := by omega
    have ha : (⟨g, o, none⟩ : Addr).add i = ⟨g, o + i, none⟩ := by unfold Addr.add; split <;> simp_all
    have hc : w.cell? ⟨g, o + i, none⟩ = some cur[o + i] := by simp [World.cell?, hg, hi]
    have hz : w.frozen? ⟨g, o + i, none⟩ = false := by
      have := hf _ hi
      obtain ⟨a, b⟩ := fz
      simp only [World.frozen?, hg, Bool.and_eq_false_iff, decide_eq_false_iff_not]
      simp only at this
      by_cases k : a ≤ o + i
      · exact .inr fun h => this ⟨k, h⟩
      · exact .inl k
    have hst : (store ((⟨g, o, none⟩ : Addr).add i) v).run P w = .ok () (w.setRow g (cur.setIfInBounds (o + i) v)) := by
      rw [ha, run_store P w _ v _ (h1 v (by simp)), hc]
      simp [hz, setCell_eq_setRow w g (o + i) cur t fz v hg]
    obtain ⟨c', e1, e2, e3⟩ := ih (i + 1) (cur.setIfInBounds (o + i) v) _ (setRow_heap w g cur _ t _ hg) (by simpa using hf) (by simp; omega) (fun x hx => h1 x (by simp [hx]))
    refine ⟨c', ?_, by simpa using e2, ?_⟩
    · simp only [storeCells, Sem.run_bind, hst, Result.andThen_ok, e1, setRow_setRow]
    · rw [List.length_cons, show o + i + (r.length + 1) = o + (i + 1) + r.length by omega, e3, show o + (i + 1) = o + i + 1 by omega, Array.toList_setIfInBounds, List.take_add_one, List.getElem?_set_self (by simpa using hi), List.take_set_of_le (by omega)]
      simp
theorem run_appendZ {P : Program} {w : World} {t e : TypeId} {by_ : Nat} {v u : Value} {l m : List UInt8} (ty : TypeId) (ht : P.underlying t = some (.slice e)) (hE : Elem P e 1 by_) (hz : OwnZ w e v l) (hu : RdL u8 w u m) (h63 : l.length + m.length ≤ maxLen) (hby : (l.length + m.length) * by_ ≤ 140737488355328) :
    ∃ v' w', (Builtin.append_ #[t, t] ty #[v, u]).run P w = .ok v' w' ∧ OwnZ w' e v' (l ++ m) ∧ FrS (fun k => v.ownBlock = some k) w w' ∧ ∀ k, v'.ownBlock = some k → v.ownBlock = some k ∨ w.heap.size ≤ k := by
  obtain ⟨inf, z, hi, hzr, hs, hb, hzs, hpos⟩ := hE
  have hz0 := hz
  obtain ⟨g, cap, cur, fz, rfl, hg, hfz, hn, hm, hcs, htk⟩ := hz
  obtain ⟨a, c2, rfl, hc, hm2, hl, hsome, hat⟩ := hu
  have h9 : l.length + m.length ≤ 9223372036854775807 := by simp only [maxLen] at h63; omega
  have one : ∀ x ∈ m.map u8, x.oneCell' = true := fun x hx => by obtain ⟨b, _, rfl⟩ := List.mem_map.1 hx; rfl
  cases a with
  | some ad =>
    have hnews : ∀ j x, (m.map u8)[j]? = some x → w.cell? (ad.add j) = some x := fun j x hx => by
      have hp : 0 < (m.map u8).length := by have := (List.getElem?_eq_some_iff.1 hx).1; omega
      obtain ⟨b, off, hbo⟩ := hsome hp
      cases hbo
      rw [addr_add]; exact hat j x hx
    by_cases hroom : l.length + m.length ≤ cap
    · have hf := run_firstCells_some (P := P) w inf.size m.length ad m.length c2 (m.map u8) (by rw [hs]; exact hl) hnews
      rw [hs] at hf
      obtain ⟨cur', e1, e2, e3⟩ := storeZ P g l.length e fz (m.map u8) 0 cur w hg (by rw [hcs]; exact hfz) (by simp; omega) one
      have hr : (Builtin.append_ #[t, t] ty #[.slice (some ⟨g, 0, none⟩) l.length cap, .slice (some ad) m.length c2]).run P w = .ok (.slice (some ⟨g, 0, none⟩) (l.length + m.length) cap) (w.setRow g cur') := by
        simp [Builtin.append_, run_underlying ht, sizeOf, typeInfo, hi, hs, Builtin.lenOf, hroom, hf, Addr.add_lit, e1]
      refine ⟨_, _, hr, ⟨g, cap, cur', fz, by rw [List.length_append], setRow_heap w g cur _ e _ hg, hfz, by rw [List.length_append]; exact hroom, hm, by omega, ?_⟩, FrS.ofGrown (r := some g) ⟨rfl, rfl, rfl, by simp, fun k _ hk => setRow_other w g k _ (fun e => hk (by rw [e]))⟩ (fun k hk => hk), fun k hk => .inl hk⟩
      rw [List.length_append, List.map_append, ← htk]
      simpa using e3
    · have hr := run_append_grow (P := P) w t ty e inf z ht hi hzr ⟨g, 0, none⟩ l.length cap (l.map u8) (by rw [hs]; simp) (fun j x hx => by
          have hh := (OwnZ.rd hz0)
          obtain ⟨a', c', ea, _, _, _, _, hat'⟩ := hh
          injection ea with ea1
          subst ea1
          rw [addr_add]; exact hat' j x hx) ad m.length c2 (m.map u8) (by rw [hs]; exact hl) hnews (by omega) (by omega) (growslice_fits (by omega) (by rw [hb]; exact hby))
      refine ⟨_, _, hr, ⟨w.heap.size, _, _, (0, 0), by rw [List.length_append], heap_alloc_new w.drew _, fun j _ h => by omega, by rw [List.length_append]; exact grownCap_ge _ _ _ _, grownCap_le_maxLen _ _ _ _ h63, ?_, ?_⟩, FrS.ofExt ((Ext.refl w).drew.alloc _), fun k hk => .inr ?_⟩
      · have := grownCap_ge w (l.length + m.length) cap e
        simp only [Array.size_append, List.size_toArray, size_zeroCells, hzs, List.length_map]
        omega
      · rw [List.length_append]
        simp only [Array.toList_append, List.append_assoc]
        rw [← List.append_assoc, ← List.map_append]
        exact List.take_left' (by simp)
      · simp [Value.ownBlock] at hk; omega
  | none =>
    have hn0 : m = [] := by
      cases m with
      | nil => rfl
      | cons x r => obtain ⟨b, off, h⟩ := hsome (by simp); cases h
    subst hn0
    refine ⟨_, w, ?_, by rw [List.append_nil]; exact hz0, FrS.refl _ w, fun k h => .inl h⟩
    simp [Builtin.append_, run_underlying ht, sizeOf, typeInfo, hi, Builtin.lenOf, Builtin.firstCells, hn, storeCells]
section
variable {P : Program} {ops : Array Oper} {Q : Exit → Act → World → Prop} {s : St} {env : Env} {w0 w : World} {S : Nat → Prop} {rs : List Rg} {rest : List Oper}
variable {d : Nat} {ty : TypeId} {pos : String} {aft : Array Edge}
theorem E.appendZ {t e : Nat} {x y : Operand} {by_ : Nat} {v u : Value} {l m : List UInt8} (i : Nat) (hM : M w0 S w rs) (hi : rs[i]? = some (Rg.sz e v l)) (hx : ev env x = some v) (hy : ev env y = some u) (ht : P.underlying t = some (.slice e)) (hE : Elem P e 1 by_)
  (hu : RdL u8 w u m) (h63 : l.length + m.length ≤ 9223372036854775807) (hby : (l.length + m.length) * by_ ≤ 140737488355328) (hd : Nat.blt d s.n = true)
  (h : ∀ v' w', M w0 S w' (rs.set i (Rg.sz e v' (l ++ m))) → wpE P ops Q s rest ((d, v') :: env) w') :
  wpE P ops Q s (⟨some d, .call ⟨.builtin .append, #[x, y], #[t, t]⟩, ty, pos, aft, none⟩ :: rest) env w := by
 obtain ⟨v', w', hr, hz, hf, hb⟩ := run_appendZ (P := P) ty ht hE (hM.ok hi) hu (by unfold maxLen; omega) hby
 exact E.op (fun a ha => by simp [execOp, resolve, invoke, builtin, ha.ev hx, ha.ev hy, hr]) hd (h v' w' (hM.upd i hi hf hz hb))
theorem E.strbZ {src dst e : TypeId} {x : Operand} {l : List UInt8} (hM : M w0 S w rs) (hx : ev env x = some (str l)) (hs : P.underlying src = some .string) (ht : P.underlying dst = some (.slice e)) (he : P.underlying e = some (.int .u8)) (hl : l.length ≤ 1000000) (hd : Nat.blt d s.n = true)
    (h : ∀ v w', M w0 S w' (rs ++ [Rg.sz e v l]) → wpE P ops Q s rest ((d, v) :: env) w') : wpE P ops Q s (⟨some d, .convert src dst x, ty, pos, aft, none⟩ :: rest) env w := by
  have hr := run_bytes_of_string (P := P) w src dst e ⟨l.toArray⟩ hs ht he
  have hsz : (ByteArray.mk l.toArray).size = l.length := by simp [ByteArray.size]
  have hge := grownCap_ge w (ByteArray.mk l.toArray).size 0 e
  have hle := grownCap_le_maxLen w (ByteArray.mk l.toArray).size 0 e (by rw [hsz]; unfold maxLen; omega)
  generalize grownCap w (ByteArray.mk l.toArray).size 0 e = cap at *
  have hbz : (bytesRow ⟨l.toArray⟩ cap).size = cap := by unfold bytesRow; simp [ByteArray.size] at hge ⊢; omega
  rw [hsz] at hr hge
  refine E.op (v := .slice (some ⟨w.heap.size, 0, none⟩) l.length cap) (fun a ha => by simp only [execOp, ha.ev hx]; rw [Sem.run_bind, hr]; rfl) hd (h _ _ (hM.new ((Ext.refl w).drew.alloc _) ?_ ?_))
  · refine ⟨w.heap.size, cap, _, _, rfl, heap_alloc_new w.drew _, fun j hj h => by rw [hbz] at h; omega, hge, hle, hbz, ?_⟩
    unfold bytesRow
    rw [Array.toList_append, List.take_append_of_le_length (by simp), Array.toList_map]
    exact List.take_of_length_le (by simp)
  · intro k hk; simp [Rg.sz, Value.ownBlock] at hk; omega
theorem E.litZ {n d2 : Nat} {ty2 : TypeId} {pos2 : String} {aft2 : Array Edge} {t e : TypeId} {xs : List (Nat × Operand)} {vs : List (Nat × Value)} {l : List UInt8}
  (hM : M w0 S w rs) (hx : evp env xs = some vs) (hb : ∀ w, (Instr.buildSlice t n vs.toArray).run P w = .ok (.slice (some ⟨w.heap.size, 0, none⟩) n n) (w.alloc (.cells (l.map u8).toArray e))) (ht : P.underlying t = some (.slice e)) (he : P.underlying e = some (.int .u8)) (hl : l.length = n) (hn : n ≤ maxLen) (hd : Nat.blt d s.n = true) (hd2 : Nat.blt d2 s.n = true)
  (h : ∀ v w', M w0 S w' (rs ++ [Rg.sz e v l]) → wpE P ops Q s rest ((d2, v) :: (d, v) :: env) w') : wpE P ops Q s (⟨some d, .buildSlice t n xs.toArray, ty, pos, aft, none⟩ :: ⟨some d2, .convert t t (.tmp d), ty2, pos2, aft2, none⟩ :: rest) env w := by
 subst hl
 refine E.buildS hx hb hd ?_
 refine E.op (v := .slice (some ⟨w.heap.size, 0, none⟩) l.length l.length) (w' := w.alloc (.cells (l.map u8).toArray e (l.length, l.length + 1))) (fun a ha => ?_) hd2 (h _ _ (hM.new (Ext.new _ _) ⟨w.heap.size, l.length, _, _, rfl, heap_alloc_new w _, fun j hj h => by simp at h; omega, Nat.le_refl _, hn, by simp, List.take_of_length_le (by simp)⟩ (fun k hk => by simp [Rg.sz, Value.ownBlock] at hk; omega)))
 have hv : a.eval (.tmp d) = .slice (some ⟨w.heap.size, 0, none⟩) l.length l.length := ha.ev (by show look _ d = _; rw [look_cons, if_pos rfl])
 have hr := Lib.run_convert_bytes_const (P := P) w t e (l.map u8).toArray l.length l.length ht he
 simp only [execOp, hv]
 rw [Sem.run_bind, hr]
 simp
end
end Go.Proofs.YtplbgehpohdmdaaGreatDoor.Sym
