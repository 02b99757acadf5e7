/- The walk by named slots: bytes as strings, deferred calls and locks, lists of lists of bytes. For whatever program. -/
import Derived.Test.YtdcgmkoonanpgaaSymU
import Derived.Defers
import Derived.Laws.IdiomStrings
import Derived.Conc.MuLone
namespace Go.Proofs.Ytdcgmkoonanpgaa.Sym
set_option linter.unusedSimpArgs false
set_option linter.unusedVariables false
open Go.RowKit

theorem look_val {env : Env} {d : Nat} {k : IntKind} {x y : Int} (h : look env d = some (.int k x)) (e : x = y) : look env d = some (.int k y) := by rw [h, e]
theorem look_eq {env : Env} {d : Nat} {x y : Value} (h : look env d = some x) (e : x = y) : look env d = some y := by rw [h, e]
/-! strings -/
abbrev str (l : List UInt8) : Value := .string ⟨l.toArray⟩
section
variable {P : Program} {ops : Array Oper} {Q : Exit → Act → World → Prop} {Qn Lq : Act → Prop} {s : St} {env : Env} {w0 w : World} {S : Nat → Prop} {rs : List Rg} {rest : List Oper}
variable {d : Nat} {ty : TypeId} {pos : String} {aft : Array Edge}
theorem run_bstr {src dst e : TypeId} {v : Value} {l : List UInt8} (hs : P.underlying src = some (.slice e)) (he : P.underlying e = some (.int .u8)) (hd : P.underlying dst = some .string) (h : RdL u8 w v l) : (convert src dst v).run P w = .ok (str l) w := by
  obtain ⟨a, cap, rfl, _, _, h4, h5, h6⟩ := h
  cases l with
  | nil =>
    cases a with
    | none => rw [run_convert_bytes_string w src dst e none _ cap hs he hd]; rfl
    | some a => exact run_convert_bytes_back w src dst e a cap [] hs he hd (fun j hj => by simp at hj)
  | cons c l =>
    obtain ⟨b, off, rfl⟩ := h5 (by simp)
    exact run_convert_bytes_back w src dst e ⟨b, off, none⟩ cap (c :: l) hs he hd (fun j hj => by
      have := h6 j (u8 (c :: l)[j]) (by rw [List.getElem?_map, List.getElem?_eq_getElem hj]; rfl)
      rw [show (Addr.add ⟨b, off, none⟩ j) = ⟨b, off + j, none⟩ from by unfold Addr.add; split <;> simp_all]; exact this)
theorem E.bstr {src dst e : TypeId} {x : Operand} {v : Value} {l : List UInt8} (hx : ev env x = some v) (h : RdL u8 w v l) (hs : P.underlying src = some (.slice e)) (he : P.underlying e = some (.int .u8)) (ht : P.underlying dst = some .string) (hd : Nat.blt d s.n = true)
    (k : wpE P ops Q s rest ((d, str l) :: env) w) : wpE P ops Q s (⟨some d, .convert src dst x, ty, pos, aft, none⟩ :: rest) env w :=
  E.op (fun a ha => by simp only [execOp, ha.ev hx]; rw [Sem.run_bind, run_bstr hs he ht h]; rfl) hd k
theorem Q.bstr {src dst e : TypeId} {x : Operand} {v : Value} {l : List UInt8} (hx : ev env x = some v) (h : RdL u8 w v l) (hs : P.underlying src = some (.slice e)) (he : P.underlying e = some (.int .u8)) (ht : P.underlying dst = some .string) (hd : Nat.blt d s.n = true)
    (k : wpQ P ops w Qn s rest ((d, str l) :: env)) : wpQ P ops w Qn s (⟨some d, .convert src dst x, ty, pos, aft, none⟩ :: rest) env :=
  Q.op (fun w' hw' a ha => by simp only [execOp, ha.ev hx]; rw [Sem.run_bind, run_bstr hs he ht (h.ext hw')]; rfl) hd k
theorem Y.bstr {src dst e : TypeId} {x : Operand} {v : Value} {l : List UInt8} (hx : ev env x = some v) (h : RdL u8 w v l) (hs : P.underlying src = some (.slice e)) (he : P.underlying e = some (.int .u8)) (ht : P.underlying dst = some .string) : Yld P ops s env w ⟨some d, .convert src dst x, ty, pos, aft, none⟩ (str l) :=
  Yld.of (fun a ha => by simp only [execOp, ha.ev hx]; rw [Sem.run_bind, run_bstr hs he ht h]; rfl)
theorem str_eq (l m : List UInt8) : ((ByteArray.mk l.toArray).toList == (ByteArray.mk m.toArray).toList) = decide (l = m) := by
  have e : ∀ l : List UInt8, (ByteArray.mk l.toArray).toList = l := fun l => by
    rw [ByteArray.toList_eq]
  rw [e, e, Bool.eq_iff_iff]; simp
theorem run_eqstr {t : TypeId} {x y : Operand} {l m : List UInt8} (op : BinOp) (ho : op = .eql ∨ op = .neq) : (do eqGuard op t x y (str l) (str m); binOp op t (str l) (str m) : Sem Value).run P w = .ok (.bool (if op = .eql then decide (l = m) else decide (l ≠ m))) w := by
  rcases ho with rfl | rfl
  · have := str_eq l m
    simp only [eqGuard, binOp_string_eql, this]; rfl
  · have := str_eq l m
    have e : decide (l ≠ m) = !decide (l = m) := by simp
    simp [eqGuard, binOp, Op.stringOp, this, e]
    rw [Bool.eq_iff_iff]; simp
theorem E.eqstr {t t2 : TypeId} {x y : Operand} {l m : List UInt8} (hx : ev env x = some (str l)) (hy : ev env y = some (str m)) (hd : Nat.blt d s.n = true) (h : wpE P ops Q s rest ((d, .bool (decide (l = m))) :: env) w) : wpE P ops Q s (⟨some d, .binOp .eql t x y t2, ty, pos, aft, none⟩ :: rest) env w :=
  E.op (fun a ha => by
    have := run_eqstr (P := P) (w := w) (t := t) (x := x) (y := y) (l := l) (m := m) .eql (.inl rfl)
    simp only [execOp, ha.ev hx, ha.ev hy]
    rw [Sem.run_bind, this]; rfl) hd h
theorem E.nestr {t t2 : TypeId} {x y : Operand} {l m : List UInt8} (hx : ev env x = some (str l)) (hy : ev env y = some (str m)) (hd : Nat.blt d s.n = true) (h : wpE P ops Q s rest ((d, .bool (decide (l ≠ m))) :: env) w) : wpE P ops Q s (⟨some d, .binOp .neq t x y t2, ty, pos, aft, none⟩ :: rest) env w :=
  E.op (fun a ha => by
    have := run_eqstr (P := P) (w := w) (t := t) (x := x) (y := y) (l := l) (m := m) .neq (.inr rfl)
    simp only [execOp, ha.ev hx, ha.ev hy]
    rw [Sem.run_bind, this]; rfl) hd h
theorem Q.eqstr {t t2 : TypeId} {x y : Operand} {l m : List UInt8} (hx : ev env x = some (str l)) (hy : ev env y = some (str m)) (hd : Nat.blt d s.n = true) (h : wpQ P ops w Qn s rest ((d, .bool (decide (l = m))) :: env)) : wpQ P ops w Qn s (⟨some d, .binOp .eql t x y t2, ty, pos, aft, none⟩ :: rest) env :=
  Q.op (fun w' _ a ha => by
    have := run_eqstr (P := P) (w := w') (t := t) (x := x) (y := y) (l := l) (m := m) .eql (.inl rfl)
    simp only [execOp, ha.ev hx, ha.ev hy]
    rw [Sem.run_bind, this]; rfl) hd h
theorem Q.nestr {t t2 : TypeId} {x y : Operand} {l m : List UInt8} (hx : ev env x = some (str l)) (hy : ev env y = some (str m)) (hd : Nat.blt d s.n = true) (h : wpQ P ops w Qn s rest ((d, .bool (decide (l ≠ m))) :: env)) : wpQ P ops w Qn s (⟨some d, .binOp .neq t x y t2, ty, pos, aft, none⟩ :: rest) env :=
  Q.op (fun w' _ a ha => by
    have := run_eqstr (P := P) (w := w') (t := t) (x := x) (y := y) (l := l) (m := m) .neq (.inr rfl)
    simp only [execOp, ha.ev hx, ha.ev hy]
    rw [Sem.run_bind, this]; rfl) hd h
theorem Y.eqstr {t t2 : TypeId} {x y : Operand} {l m : List UInt8} (hx : ev env x = some (str l)) (hy : ev env y = some (str m)) : Yld P ops s env w ⟨some d, .binOp .eql t x y t2, ty, pos, aft, none⟩ (.bool (decide (l = m))) :=
  Yld.of (fun a ha => by
    have := run_eqstr (P := P) (w := w) (t := t) (x := x) (y := y) (l := l) (m := m) .eql (.inl rfl)
    simp only [execOp, ha.ev hx, ha.ev hy]
    rw [Sem.run_bind, this]; rfl)
theorem Y.nestr {t t2 : TypeId} {x y : Operand} {l m : List UInt8} (hx : ev env x = some (str l)) (hy : ev env y = some (str m)) : Yld P ops s env w ⟨some d, .binOp .neq t x y t2, ty, pos, aft, none⟩ (.bool (decide (l ≠ m))) :=
  Yld.of (fun a ha => by
    have := run_eqstr (P := P) (w := w) (t := t) (x := x) (y := y) (l := l) (m := m) .neq (.inr rfl)
    simp only [execOp, ha.ev hx, ha.ev hy]
    rw [Sem.run_bind, this]; rfl)
/-- a slice that is only read, by list -/
abbrev Rg.rl (v : Value) (l : List UInt8) : Rg := Rg.rd 1 v l.length (l.map u8)
theorem M.rl {v : Value} {l : List UInt8} (h : M w0 S w rs) (i : Nat) (hi : rs[i]? = some (Rg.rl v l)) : RdL u8 w v l := h.ok hi
/-- []byte of a string -/
theorem E.strbM {src dst e : TypeId} {x : Operand} {l : List UInt8} (hM : M w0 S w rs) (hx : ev env x = some (str l)) (hs : P.underlying src = some .string) (ht : P.underlying dst = some (.slice e)) (he : P.underlying e = some (.int .u8)) (hl : l.length ≤ 1000000) (hd : Nat.blt d s.n = true)
    (h : ∀ v w', M w0 S w' (rs ++ [Rg.rl v l]) → wpE P ops Q s rest ((d, v) :: env) w') : wpE P ops Q s (⟨some d, .convert src dst x, ty, pos, aft, none⟩ :: rest) env w := by
  have hr := run_bytes_of_string (P := P) w src dst e ⟨l.toArray⟩ hs ht he
  have hsz : (ByteArray.mk l.toArray).size = l.length := by simp [ByteArray.size]
  have hge := grownCap_ge w (ByteArray.mk l.toArray).size 0 e
  have hle := grownCap_le_maxLen w (ByteArray.mk l.toArray).size 0 e (by rw [hsz]; unfold maxLen; omega)
  generalize grownCap w (ByteArray.mk l.toArray).size 0 e = cap at *
  rw [hsz] at hr hge
  refine E.op (v := .slice (some ⟨w.heap.size, 0, none⟩) l.length cap) (fun a ha => by simp only [execOp, ha.ev hx]; rw [Sem.run_bind, hr]; rfl) hd (h _ _ (hM.new ((Ext.refl w).drew.alloc _) ?_ ?_))
  · refine ⟨_, cap, rfl, hge, hle, by simp, fun _ => ⟨_, _, rfl⟩, fun j u hu => ?_⟩
    rw [List.getElem?_map] at hu
    have hj : j < l.length := by
      rcases Nat.lt_or_ge j l.length with h | h
      · exact h
      · rw [List.getElem?_eq_none h] at hu; cases hu
    rw [List.getElem?_eq_getElem hj] at hu
    have := World.cell?_alloc_mark w.drew (bytesRow ⟨l.toArray⟩ cap) e ((bytesRow ⟨l.toArray⟩ cap).size, (bytesRow ⟨l.toArray⟩ cap).size + 1) j
    rw [bytesRow_at ⟨l.toArray⟩ cap j (by simpa using hj)] at this
    rw [← Option.some.inj hu]
    simpa [bs] using this
  · rintro k ⟨_, rfl⟩; exact Nat.le_refl _
end
end Go.Proofs.Ytdcgmkoonanpgaa.Sym
