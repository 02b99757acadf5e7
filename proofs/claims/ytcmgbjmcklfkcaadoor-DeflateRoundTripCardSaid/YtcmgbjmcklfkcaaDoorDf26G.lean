/- deflate: Unwrap. -/
import Derived.Laws.Cover3
import Derived.Stop.BytesEq
import Derived.Test.YtcmgbjmcklfkcaaDoorDf25G
import Derived.Test.YtcmgbjmcklfkcaaDoorG33
namespace Go.Proofs.YtcmgbjmcklfkcaaDoor
set_option linter.unusedSimpArgs false
set_option linter.unusedVariables false
open Go.RowKit Sym

namespace Sym
section
variable {P : Program} {ops : Array Oper} {Q : Exit → Act → World → Prop} {s : St} {env : Env} {w w0 : World} {S : Nat → Prop} {rs : List Rg} {rest : List Oper} {d : Nat} {ty : TypeId} {pos : String} {aft : Array Edge}
theorem E.arrAt {t e : TypeId} {n m : Nat} {x : Operand} {v : Value} {ad : Addr} (hx : ev env x = some v) (hv : ∃ cap, v = .slice (some ad) m cap) (ht : P.underlying t = some (.array n e)) (hn : n ≤ m) (hd : Nat.blt d s.n = true)
    (h : wpE P ops Q s rest ((d, .pointer (some ad)) :: env) w) : wpE P ops Q s (⟨some d, .sliceToArrayPointer t x, ty, pos, aft, none⟩ :: rest) env w := by
  obtain ⟨cap, rfl⟩ := hv
  refine E.op (fun a ha => ?_) hd h
  have := run_arrayAt (P := P) (w := w) t e n (some ad) m cap ht hn
  simp [execOp, ha.ev hx, this]
theorem Y.neB {t t2 e : TypeId} {n : Nat} {x y : Operand} (xs ys : List UInt8) (hx : ev env x = some (.agg (xs.map u8).toArray)) (hy : ev env y = some (.agg (ys.map u8).toArray)) (ht : P.underlying t = some (.array n e)) (he : P.underlying e = some (.int .u8)) (hsz : (P.info? e).map (·.size) = some 1) (hg : P.eqGuardType P.depth t = false) (h1 : xs.length = n) (h2 : ys.length = n) : Yld P ops s env w ⟨some d, .binOp .neq t x y t2, ty, pos, aft, none⟩ (.bool (decide (xs ≠ ys))) := by
  have hs' : ∀ w, (sizeOf e).run P w = .ok 1 w := fun w => by
    obtain ⟨i, hi, hs'⟩ := Option.map_eq_some_iff.1 hsz
    simp [sizeOf, typeInfo, hi, hs']
  have h3 := run_equalIn_bytes (P := P) w 9998 t e n ht he hs' xs ys h1 h2
  have h4 : (Op.equalIn 10000 t (.agg (xs.map u8).toArray) (.agg (ys.map u8).toArray)).run P w = .ok (xs == ys) w := h3
  have e1 : (!(xs == ys)) = decide (xs ≠ ys) := by by_cases h : xs = ys <;> simp [h]
  refine Yld.of (fun a ha => ?_)
  have : (do eqGuard .neq t x y (.agg (xs.map u8).toArray) (.agg (ys.map u8).toArray); binOp .neq t (.agg (xs.map u8).toArray) (.agg (ys.map u8).toArray) : Sem Value).run P w = .ok (.bool (decide (xs ≠ ys))) w := by
    rw [Sem.run_bind, run_eqGuard_agg w .neq t x y _ _ hg]
    simp only [Result.andThen_ok]
    rw [run_neq_struct, h4, ← e1]; rfl
  simp only [execOp, ha.ev hx, ha.ev hy]
  rw [Sem.run_bind, this]; rfl
end
theorem RdL.atd {α : Type} {enc : α → Value} {w : World} {v : Value} {l : List α} (h : RdL enc w v l) (k m : Nat) : At w (bs v).1 ((bs v).2 + k) (((l.drop k).take m).map enc) := fun j u hu => by
  rw [List.getElem?_map] at hu
  obtain ⟨z, hz, rfl⟩ := Option.map_eq_some_iff.1 hu
  rw [List.getElem?_take] at hz
  split at hz
  · rw [List.getElem?_drop] at hz
    obtain ⟨hj, rfl⟩ := List.getElem?_eq_some_iff.1 hz
    have := RdL.cell h hj
    unfold el at this
    rw [Nat.add_assoc]; exact this
  · cases hz
end Sym
theorem cut_drop {α : Type} (a : Nat) (l : List α) : cutL a l.length l = l.drop a := by
  unfold cutL
  rw [List.take_of_length_le]
  rw [List.length_drop]; exact Nat.le_refl _
theorem and15u8 (a : Nat) (h : a < 256) : bits .and .u8 (a : Int) 15 = ((a % 16 : Nat) : Int) := by
  have h1 := u8_and_nat a 15 h (by decide)
  have h2 : a &&& 15 = a % 16 := Nat.and_two_pow_sub_one_eq_mod a 4
  rw [h2] at h1; exact h1
theorem and32u8 (a : Nat) (h : a < 256) : bits .and .u8 (a : Int) 32 = ((a &&& 32 : Nat) : Int) := u8_and_nat a 32 h (by decide)
namespace Df
/-- what Unwrap answers -/
noncomputable def unw (l : List UInt8) (x : Int) : Except Int (List UInt8) :=
  if x < 0 ∨ 16777216 < x then .error 3 else if 4194304 < l.length then .error 4 else if l.length < 2 then .error 10
  else if (l.getD 0 0).toNat % 16 ≠ 8 ∨ 7 < (l.getD 0 0).toNat / 16 ∨ (256 * (l.getD 0 0).toNat + (l.getD 1 0).toNat) % 31 ≠ 0 then .error 25
  else if (l.getD 1 0).toNat &&& 32 ≠ 0 then .error 9
  else match inf (l.drop 2) x with
    | .error e => .error e
    | .ok (out, a) => if (l.drop (2 + (a + 7) / 8)).length < 4 then .error 10 else if ad4 out ≠ (l.drop (2 + (a + 7) / 8)).take 4 then .error 26 else if 4 < (l.drop (2 + (a + 7) / 8)).length then .error 11 else .ok out
end Df
def UnwV (r : Except Int (List UInt8)) (out : List UInt8) (e : Int) : Prop := (e = 0 ∧ r = .ok out) ∨ (e ≠ 0 ∧ r = .error e ∧ out = [])
set_option maxHeartbeats 4000000 in
set_option maxRecDepth 4000 in
theorem Unwrap_ret (p : Value) (l : List UInt8) (x : Int) (w : World) (hp : RdL u8 w p l) (hO : Ord w) :
    Ret Tryd.prog 20 #[p, i64 x] w fun v w' => ∃ (vo : Value) (out : List UInt8) (e : Int), v = .tuple #[vo, i64 e] ∧ M w Nn w' [Rg.sl u8 5 vo out] ∧ UnwV (Df.unw l x) out e := by
  have hM := M.start w
  refine enter Tryd.func20 rfl (by kernel_rfl) Tryd.ntmps20 rfl ?_
  refine C.seq <| C.region <| E.asg rfl rfl <| E.asg rfl rfl <| E.nil <| X.next <| C.seq <| ?_

  refine C.chainE [(0, _), (1, _)] rfl [(15, .bool (decide (x < 0 ∨ 16777216 < x)))] ?_ ?_
  ·
    refine C.region <| E.mv rfl rfl <| E.bin rfl rfl rfl rfl <| E.mv rfl rfl <| ?_
    refine E.split 12 rfl (fun g12 => ?_) (fun g12 => ?_)
    ·
      try simp only [decide_eq_true_eq, decide_eq_false_iff_not, ne_eq, Decidable.not_not, Bool.not_eq_true', Bool.not_eq_false'] at g12
      refine E.off rfl rfl rfl rfl <| E.off rfl rfl rfl rfl <| E.pick rfl rfl rfl <| E.nil <| X.join0 (Sub.cons (by (first | exact leaf_f (by omega) | exact leaf_t (by omega) | exact leaf_d (by omega) | exact leaf_f (by first | (simp [*] <;> fail) | omega) | exact leaf_t (by first | (simp [*] <;> fail) | omega) | exact leaf_d (by first | (simp [*] <;> fail) | omega) | exact leaf_f (by (first | omega | ((try simp only [decide_eq_true_eq, decide_eq_false_iff_not, Bool.not_eq_true', Bool.not_eq_false'] at *); first | omega | (simp_all <;> fail) | (simp_all; omega)))) | exact leaf_t (by (first | omega | ((try simp only [decide_eq_true_eq, decide_eq_false_iff_not, Bool.not_eq_true', Bool.not_eq_false'] at *); first | omega | (simp_all <;> fail) | (simp_all; omega)))) | exact leaf_d (by (first | omega | ((try simp only [decide_eq_true_eq, decide_eq_false_iff_not, Bool.not_eq_true', Bool.not_eq_false'] at *); first | omega | (simp_all <;> fail) | (simp_all; omega)))))) <| Sub.nil _) rfl rfl
    ·
      try simp only [decide_eq_true_eq, decide_eq_false_iff_not, ne_eq, Decidable.not_not, Bool.not_eq_true', Bool.not_eq_false'] at g12
      refine E.on rfl rfl (E.mv rfl rfl ?_)
      refine E.on rfl rfl (E.bin rfl rfl rfl rfl ?_)
      refine E.pick rfl rfl rfl <| E.nil <| X.join0 (Sub.cons (by (first | exact leaf_f (by omega) | exact leaf_t (by omega) | exact leaf_d (by omega) | exact leaf_f (by first | (simp [*] <;> fail) | omega) | exact leaf_t (by first | (simp [*] <;> fail) | omega) | exact leaf_d (by first | (simp [*] <;> fail) | omega) | exact leaf_f (by (first | omega | ((try simp only [decide_eq_true_eq, decide_eq_false_iff_not, Bool.not_eq_true', Bool.not_eq_false'] at *); first | omega | (simp_all <;> fail) | (simp_all; omega)))) | exact leaf_t (by (first | omega | ((try simp only [decide_eq_true_eq, decide_eq_false_iff_not, Bool.not_eq_true', Bool.not_eq_false'] at *); first | omega | (simp_all <;> fail) | (simp_all; omega)))) | exact leaf_d (by (first | omega | ((try simp only [decide_eq_true_eq, decide_eq_false_iff_not, Bool.not_eq_true', Bool.not_eq_false'] at *); first | omega | (simp_all <;> fail) | (simp_all; omega)))))) <| Sub.nil _) rfl rfl
  refine C.cond' rfl (fun hC0 => ?_) (fun hC0 => ?_)
  ·
    refine C.seq <| C.region <| E.asg rfl rfl <| E.asg rfl rfl <| E.nil <| X.next <| C.ret <| X.retT <| ret2 rfl rfl rfl ?_
    exact ⟨_, [], 3, rfl, (hM.pick [] (by decide)).nil u8 5, .inr ⟨by decide, by unfold Df.unw; rw [if_pos hC0], rfl⟩⟩
  ·
    refine C.skip <| X.next <| C.seq <| C.seq <| C.region <| E.mv rfl rfl <| ?_
    refine E.lenv rfl (Rd.shape (hM.arg0 hp)) Tryd.underlying22 rfl ?_
    refine E.bin rfl rfl rfl rfl <| E.nil <| X.next <| ?_
    refine C.cond' rfl (fun hC1 => ?_) (fun hC1 => ?_)
    ·
      refine C.seq <| C.region <| E.asg rfl rfl <| E.asg rfl rfl <| E.nil <| X.next <| C.ret <| X.retT <| ret2 rfl rfl rfl ?_
      exact ⟨_, [], 4, rfl, (hM.pick [] (by decide)).nil u8 5, .inr ⟨by decide, by unfold Df.unw; rw [if_neg hC0, if_pos (by omega)], rfl⟩⟩
    ·
      refine C.skip <| X.next <| C.seq <| C.seq <| C.region <| E.mv rfl rfl <| ?_
      refine E.lenv rfl (Rd.shape (hM.arg0 hp)) Tryd.underlying22 rfl ?_
      refine E.bin rfl rfl rfl rfl <| E.nil <| X.next <| ?_
      refine C.cond' rfl (fun hC2 => ?_) (fun hC2 => ?_)
      ·
        refine C.seq <| C.region <| E.asg rfl rfl <| E.asg rfl rfl <| E.nil <| X.next <| C.ret <| X.retT <| ret2 rfl rfl rfl ?_
        exact ⟨_, [], 10, rfl, (hM.pick [] (by decide)).nil u8 5, .inr ⟨by decide, by unfold Df.unw; rw [if_neg hC0, if_neg (by omega), if_pos (by omega)], rfl⟩⟩
      ·
        have h2 : 2 ≤ l.length := by omega
        have h4m : l.length ≤ 4194304 := by omega
        obtain ⟨q0, hq0⟩ : ∃ q, q = (l[0]'(by omega)).toNat := ⟨_, rfl⟩
        obtain ⟨q1, hq1⟩ : ∃ q, q = (l[1]'(by omega)).toNat := ⟨_, rfl⟩
        have hb0 : q0 < 256 := by rw [hq0]; exact UInt8.toNat_lt _
        have hb1 : q1 < 256 := by rw [hq1]; exact UInt8.toNat_lt _
        have hg0 : (l.getD 0 0).toNat = q0 := by rw [hq0, gdU (show 0 < l.length by omega)]
        have hg1 : (l.getD 1 0).toNat = q1 := by rw [hq1, gdU (show 1 < l.length by omega)]
        have hu0 : u8 (l[0]'(by omega)) = .int .u8 (q0 : Int) := by unfold u8; rw [hq0]
        have hu1 : u8 (l[1]'(by omega)) = .int .u8 (q1 : Int) := by unfold u8; rw [hq1]
        refine C.skip <| X.next <| C.seq <| ?_

        refine C.chainQ [(0, _), (1, _)] rfl [(47, .bool (decide (q0 % 16 ≠ 8 ∨ 7 < q0 / 16 ∨ (256 * q0 + q1) % 31 ≠ 0)))] ?_ ?_
        ·
          refine C.drawn (by kernel_rfl) (by kernel_rfl) <| Q.mv rfl rfl <| ?_
          refine Q.idx1 (k := 0) rfl rfl (hM.arg0 hp) rfl (by omega) Tryd.underlying22 (by kernel_rfl) rfl ?_
          refine Q.load rfl Tryd.underlying5 rfl ((hM.arg0 hp).cellA rfl (by omega)) rfl ?_
          rw [hu0]
          refine Q.binw rfl rfl rfl (congrArg _ (and15u8 q0 hb0)) rfl ?_
          refine Q.bin rfl rfl rfl rfl <| Q.mv rfl rfl <| ?_
          refine Q.split 27 rfl (fun g27 => ?_) (fun g27 => ?_)
          ·
            try simp only [decide_eq_true_eq, decide_eq_false_iff_not, ne_eq, Decidable.not_not, Bool.not_eq_true', Bool.not_eq_false'] at g27
            refine Q.off rfl rfl rfl rfl <| Q.off rfl rfl rfl rfl <| Q.off rfl rfl rfl rfl <| Q.off rfl rfl rfl rfl <| Q.off rfl rfl rfl rfl <| Q.pick rfl rfl rfl <| Q.mv rfl rfl <| Q.off rfl rfl rfl rfl <| Q.off rfl rfl rfl rfl <| Q.off rfl rfl rfl rfl <| Q.off rfl rfl rfl rfl <| Q.off rfl rfl rfl rfl <| Q.off rfl rfl rfl rfl <| Q.off rfl rfl rfl rfl <| Q.off rfl rfl rfl rfl <| Q.off rfl rfl rfl rfl <| Q.off rfl rfl rfl rfl <| Q.off rfl rfl rfl rfl <| Q.off rfl rfl rfl rfl <| Q.pick rfl rfl rfl <| Q.nil <| fun w0 hx0 => ?_
            refine X.join0 (Sub.cons (by (first | exact leaf_f (by omega) | exact leaf_t (by omega) | exact leaf_d (by omega) | exact leaf_f (by first | (simp [*] <;> fail) | omega) | exact leaf_t (by first | (simp [*] <;> fail) | omega) | exact leaf_d (by first | (simp [*] <;> fail) | omega) | exact leaf_f (by (first | omega | ((try simp only [decide_eq_true_eq, decide_eq_false_iff_not, Bool.not_eq_true', Bool.not_eq_false'] at *); first | omega | (simp_all <;> fail) | (simp_all; omega)))) | exact leaf_t (by (first | omega | ((try simp only [decide_eq_true_eq, decide_eq_false_iff_not, Bool.not_eq_true', Bool.not_eq_false'] at *); first | omega | (simp_all <;> fail) | (simp_all; omega)))) | exact leaf_d (by (first | omega | ((try simp only [decide_eq_true_eq, decide_eq_false_iff_not, Bool.not_eq_true', Bool.not_eq_false'] at *); first | omega | (simp_all <;> fail) | (simp_all; omega)))))) <| Sub.nil _) rfl hx0
          ·
            try simp only [decide_eq_true_eq, decide_eq_false_iff_not, ne_eq, Decidable.not_not, Bool.not_eq_true', Bool.not_eq_false'] at g27
            refine Q.on rfl rfl (Q.mv rfl rfl ?_)
            refine Q.on rfl rfl (Q.idx1 (k := 0) rfl rfl (hM.arg0 hp) rfl (by omega) Tryd.underlying22 (by kernel_rfl) rfl ?_)
            refine Q.on rfl rfl (Q.load rfl Tryd.underlying5 rfl ((hM.arg0 hp).cellA rfl (by omega)) rfl ?_)
            rw [hu0]
            refine Q.on rfl rfl (Q.shr rfl rfl (by decide) (shr_u8 (c := q0) (k := 4) (by decide)) rfl ?_)
            refine Q.on rfl rfl (Q.bin rfl rfl rfl rfl ?_)
            refine Q.pick rfl rfl rfl <| Q.mv rfl rfl <| ?_
            refine Q.split 34 rfl (fun g34 => ?_) (fun g34 => ?_)
            ·
              try simp only [decide_eq_true_eq, decide_eq_false_iff_not, ne_eq, Decidable.not_not, Bool.not_eq_true', Bool.not_eq_false'] at g34
              refine Q.off rfl rfl rfl rfl <| Q.off rfl rfl rfl rfl <| Q.off rfl rfl rfl rfl <| Q.off rfl rfl rfl rfl <| Q.off rfl rfl rfl rfl <| Q.off rfl rfl rfl rfl <| Q.off rfl rfl rfl rfl <| Q.off rfl rfl rfl rfl <| Q.off rfl rfl rfl rfl <| Q.off rfl rfl rfl rfl <| Q.off rfl rfl rfl rfl <| Q.off rfl rfl rfl rfl <| Q.pick rfl rfl rfl <| Q.nil <| fun w1 hx1 => ?_
              refine X.join0 (Sub.cons (by (first | exact leaf_f (by omega) | exact leaf_t (by omega) | exact leaf_d (by omega) | exact leaf_f (by first | (simp [*] <;> fail) | omega) | exact leaf_t (by first | (simp [*] <;> fail) | omega) | exact leaf_d (by first | (simp [*] <;> fail) | omega) | exact leaf_f (by (first | omega | ((try simp only [decide_eq_true_eq, decide_eq_false_iff_not, Bool.not_eq_true', Bool.not_eq_false'] at *); first | omega | (simp_all <;> fail) | (simp_all; omega)))) | exact leaf_t (by (first | omega | ((try simp only [decide_eq_true_eq, decide_eq_false_iff_not, Bool.not_eq_true', Bool.not_eq_false'] at *); first | omega | (simp_all <;> fail) | (simp_all; omega)))) | exact leaf_d (by (first | omega | ((try simp only [decide_eq_true_eq, decide_eq_false_iff_not, Bool.not_eq_true', Bool.not_eq_false'] at *); first | omega | (simp_all <;> fail) | (simp_all; omega)))))) <| Sub.nil _) rfl hx1
            ·
              try simp only [decide_eq_true_eq, decide_eq_false_iff_not, ne_eq, Decidable.not_not, Bool.not_eq_true', Bool.not_eq_false'] at g34
              refine Q.on rfl rfl (Q.mv rfl rfl ?_)
              refine Q.on rfl rfl (Q.idx1 (k := 0) rfl rfl (hM.arg0 hp) rfl (by omega) Tryd.underlying22 (by kernel_rfl) rfl ?_)
              refine Q.on rfl rfl (Q.load rfl Tryd.underlying5 rfl ((hM.arg0 hp).cellA rfl (by omega)) rfl ?_)
              rw [hu0]
              refine Q.on rfl rfl (Q.conv rfl Tryd.underlying5 Tryd.underlying3 (IntWalk.i64_in _ (by omega)) rfl ?_)
              refine Q.on rfl rfl (Q.mulN (a := 256) (b := q0) rfl rfl (by omega) rfl ?_)
              refine Q.on rfl rfl (Q.mv rfl rfl ?_)
              refine Q.on rfl rfl (Q.idx1 (k := 1) rfl rfl (hM.arg0 hp) rfl (by omega) Tryd.underlying22 (by kernel_rfl) rfl ?_)
              refine Q.on rfl rfl (Q.load rfl Tryd.underlying5 rfl ((hM.arg0 hp).cellA rfl (by omega)) rfl ?_)
              rw [hu1]
              refine Q.on rfl rfl (Q.conv rfl Tryd.underlying5 Tryd.underlying3 (IntWalk.i64_in _ (by omega)) rfl ?_)
              refine Q.on rfl rfl (Q.addN (a := 256 * q0) (b := q1) rfl rfl (by omega) rfl ?_)
              refine Q.on rfl rfl (Q.rem rfl rfl (by omega) (remN (a := 256 * q0 + q1) (b := 31)) rfl ?_)
              refine Q.on rfl rfl (Q.bin rfl rfl rfl rfl ?_)
              refine Q.pick rfl rfl rfl <| Q.nil <| fun w2 hx2 => ?_
              refine X.join0 (Sub.cons (by (first | exact leaf_f (by omega) | exact leaf_t (by omega) | exact leaf_d (by omega) | exact leaf_f (by first | (simp [*] <;> fail) | omega) | exact leaf_t (by first | (simp [*] <;> fail) | omega) | exact leaf_d (by first | (simp [*] <;> fail) | omega) | exact leaf_f (by (first | omega | ((try simp only [decide_eq_true_eq, decide_eq_false_iff_not, Bool.not_eq_true', Bool.not_eq_false'] at *); first | omega | (simp_all <;> fail) | (simp_all; omega)))) | exact leaf_t (by (first | omega | ((try simp only [decide_eq_true_eq, decide_eq_false_iff_not, Bool.not_eq_true', Bool.not_eq_false'] at *); first | omega | (simp_all <;> fail) | (simp_all; omega)))) | exact leaf_d (by (first | omega | ((try simp only [decide_eq_true_eq, decide_eq_false_iff_not, Bool.not_eq_true', Bool.not_eq_false'] at *); first | omega | (simp_all <;> fail) | (simp_all; omega)))))) <| Sub.nil _) rfl hx2
        intro w3 hx3
        have hM := hM.ext hx3
        refine C.cond' rfl (fun hC3 => ?_) (fun hC3 => ?_)
        ·
          refine C.seq <| C.region <| E.asg rfl rfl <| E.asg rfl rfl <| E.nil <| X.next <| C.ret <| X.retT <| ret2 rfl rfl rfl ?_
          exact ⟨_, [], 25, rfl, (hM.pick [] (by decide)).nil u8 5, .inr ⟨by decide, by unfold Df.unw; rw [if_neg hC0, if_neg (by omega), if_neg (by omega), hg0, hg1, if_pos hC3], rfl⟩⟩
        ·
          refine C.skip <| X.next <| C.seq <| C.seq <| C.region <| E.mv rfl rfl <| ?_
          refine E.get (k := 1) rfl rfl (hM.arg0 hp) rfl (by omega) Tryd.underlying22 (by kernel_rfl) Tryd.underlying5 rfl rfl rfl ?_
          rw [hu1]
          refine E.binw rfl rfl rfl (congrArg _ (and32u8 q1 hb1)) rfl ?_
          refine E.bin rfl rfl rfl rfl <| E.nil <| X.next <| ?_
          refine C.cond' rfl (fun hC4 => ?_) (fun hC4 => ?_)
          ·
            refine C.seq <| C.region <| E.asg rfl rfl <| E.asg rfl rfl <| E.nil <| X.next <| C.ret <| X.retT <| ret2 rfl rfl rfl ?_
            exact ⟨_, [], 9, rfl, (hM.pick [] (by decide)).nil u8 5, .inr ⟨by decide, by unfold Df.unw; rw [if_neg hC0, if_neg (by omega), if_neg (by omega), hg0, hg1, if_neg hC3, if_pos (by omega)], rfl⟩⟩
          ·
            have hun : Df.unw l x = match Df.inf (l.drop 2) x with
                | .error e => .error e
                | .ok (out, a) => if (l.drop (2 + (a + 7) / 8)).length < 4 then .error 10 else if Df.ad4 out ≠ (l.drop (2 + (a + 7) / 8)).take 4 then .error 26 else if 4 < (l.drop (2 + (a + 7) / 8)).length then .error 11 else .ok out := by
              unfold Df.unw
              rw [if_neg hC0, if_neg (by omega), if_neg (by omega), hg0, hg1, if_neg hC3, if_neg (by omega)]
            have hdl : (l.drop 2).length = l.length - 2 := List.length_drop
            refine C.skip <| X.next <| C.seq <| C.region <| E.mv rfl rfl <| ?_
            refine E.slcP (k' := .i64) 2 l.length rfl (.inl rfl) (.inr ⟨rfl, rfl⟩) (hM.arg0 hp) Tryd.underlying22 (by kernel_rfl) (by omega) (by omega) rfl ?_
            refine E.mv rfl rfl <| ?_
            refine E.call rfl rfl (Inflate_ret (partV p 2 l.length) (l.drop 2) x _ (by have := (hM.arg0 hp).partV (a := 2) (b := l.length) (by omega) (by omega); rw [cut_drop] at this; exact this) (hM.ord0 hO)) ?_
            rintro _ w2 ⟨v57, out, n, e, rfl, m, hv⟩
            have hM := hM.call m
            try dsimp only [List.nil_append, List.cons_append, List.set_cons_zero, List.set_cons_succ, repl] at hM
            try dsimp only [List.nil_append, List.cons_append, List.set_cons_zero, List.set_cons_succ, repl] at hM
            refine E.mv rfl rfl <| E.ext rfl rfl rfl <| E.ext rfl rfl rfl <| E.ext rfl rfl rfl <| E.asg rfl rfl <| E.asg rfl rfl <| E.asg rfl rfl <| E.nil <| X.next <| C.seq <| C.seq <| C.region <| E.mv rfl rfl <| E.bin rfl rfl rfl rfl <| E.nil <| X.next <| ?_
            refine C.cond' rfl (fun hC5 => ?_) (fun hC5 => ?_)
            ·
              obtain ⟨_, hv, _⟩ := hv.resolve_left (fun h => hC5 h.1)
              refine C.seq <| C.region <| E.mv rfl rfl <| E.asg rfl rfl <| E.asg rfl rfl <| E.nil <| X.next <| C.ret <| X.retT <| ret2 rfl rfl rfl ?_
              exact ⟨_, [], e, rfl, (hM.pick [] (by decide)).nil u8 5, .inr ⟨hC5, by rw [hun, hv], rfl⟩⟩
            ·
              obtain ⟨_, a, hv, hn, ha⟩ := hv.resolve_right (fun h => hC5 h.1)
              rw [hv] at hun
              simp only at hun
              rw [← hn] at hun
              have hn2 : 2 + n ≤ l.length := by omega
              have hrl : (l.drop (2 + n)).length = l.length - (2 + n) := List.length_drop
              refine C.skip <| X.next <| C.seq <| C.region <| E.mv rfl rfl <| E.mv rfl rfl <| ?_
              refine E.addN (a := 2) (b := n) rfl rfl (by omega) rfl ?_
              refine E.slcP (k' := .i64) (2 + n) l.length rfl (.inl rfl) (.inr ⟨rfl, rfl⟩) (hM.arg0 hp) Tryd.underlying22 (by kernel_rfl) (by omega) (by omega) rfl ?_
              have hcr := (hM.arg0 hp).partV (a := 2 + n) (b := l.length) (by omega) (by omega)
              rw [cut_drop] at hcr
              refine E.asg rfl rfl <| E.nil <| X.next <| C.seq <| C.seq <| C.region <| E.mv rfl rfl <| ?_
              refine E.lenv rfl (Rd.shape hcr) Tryd.underlying22 rfl ?_
              rw [hrl]
              refine E.bin rfl rfl rfl rfl <| E.nil <| X.next <| ?_
              refine C.cond' rfl (fun hC6 => ?_) (fun hC6 => ?_)
              ·
                refine C.seq <| C.region <| E.asg rfl rfl <| E.asg rfl rfl <| E.nil <| X.next <| C.ret <| X.retT <| ret2 rfl rfl rfl ?_
                exact ⟨_, [], 10, rfl, (hM.pick [] (by decide)).nil u8 5, .inr ⟨by decide, by rw [hun, if_pos (by omega)], rfl⟩⟩
              ·
                rw [if_neg (by omega)] at hun
                obtain ⟨r4, hr4⟩ : ∃ r, r = (l.drop (2 + n)).take 4 := ⟨_, rfl⟩
                have hr4l : r4.length = 4 := by rw [hr4, List.length_take, hrl]; omega
                rw [← hr4] at hun
                refine C.skip <| X.next <| C.seq <| ?_

                refine C.cut0 [(6, _), (9, _)] rfl [(76, .bool (decide (Df.ad4 out ≠ r4)))] (fun w' => M w (Nn) w' [Rg.sl u8 5 v57 out]) ?_ ?_
                ·
                  refine C.heldM hM [0] (by decide) (by kernel_rfl) fun wh5 hM hS => ?_
                  refine H.take 0 rfl rfl (by kernel_rfl) (by kernel_rfl) (by kernel_rfl) hS (fun w' hM => Y.mv rfl) rfl ?_
                  refine H.take 2 rfl rfl (by kernel_rfl) (by kernel_rfl) (by kernel_rfl) hS (fun w' hM => Y.mv rfl) rfl ?_
                  refine H.two 1 3 rfl rfl (by kernel_rfl) ?_ ?_
                  ·
                    refine E.call rfl rfl (sumOf_ret v57 out _ (hM.sl 0 rfl)) ?_
                    rintro _ w6 ⟨rfl, x6⟩
                    have hM := hM.ext x6
                    try dsimp only [List.nil_append, List.cons_append, List.set_cons_zero, List.set_cons_succ, repl] at hM
                    have hS := hM.pick [0] (by decide)
                    refine H.back hS ?_
                    refine H.only 3 rfl (by kernel_rfl) ?_
                    refine E.arrAt rfl (partV_hd (hM.arg0 hp) (k := 2 + n) (by omega)) Tryd.underlying77 (by omega) rfl ?_
                    have hS := hM.pick [0] (by decide)
                    refine H.back hS ?_
                    refine H.only 4 rfl (by kernel_rfl) ?_
                    refine E.loadA (cs := r4.map u8) rfl Tryd.underlying77 rfl (by rw [List.length_map, hr4l]; kernel_rfl) (by rw [hr4]; exact (hM.arg0 hp).atd (2 + n) 4) rfl ?_
                    have hS := hM.pick [0] (by decide)
                    refine H.back hS ?_
                    refine H.takeV 5 rfl rfl (by kernel_rfl) (by kernel_rfl) (by kernel_rfl) hS (Y.neB (Df.ad4 out) r4 rfl rfl Tryd.underlying77 Tryd.underlying5 (by kernel_rfl) (by kernel_rfl) rfl hr4l) (fun w' hM => Y.neB (Df.ad4 out) r4 rfl rfl Tryd.underlying77 Tryd.underlying5 (by kernel_rfl) (by kernel_rfl) rfl hr4l) rfl ?_
                    refine H.done (by kernel_rfl) ?_

                    refine X.join0  (Sub.cons rfl <| Sub.nil _) rfl hM
                  ·
                    refine E.arrAt rfl (partV_hd (hM.arg0 hp) (k := 2 + n) (by omega)) Tryd.underlying77 (by omega) rfl ?_
                    have hS := hM.pick [0] (by decide)
                    refine H.back hS ?_
                    refine H.takeV 4 rfl rfl (by kernel_rfl) (by kernel_rfl) (by kernel_rfl) hS (Y.loadA (cs := r4.map u8) rfl Tryd.underlying77 rfl (by rw [List.length_map, hr4l]; kernel_rfl) (by rw [hr4]; exact (hM.arg0 hp).atd (2 + n) 4)) (fun w' hM => Y.loadA (cs := r4.map u8) rfl Tryd.underlying77 rfl (by rw [List.length_map, hr4l]; kernel_rfl) (by rw [hr4]; exact (hM.arg0 hp).atd (2 + n) 4)) rfl ?_
                    refine H.only 1 rfl (by kernel_rfl) ?_
                    refine E.call rfl rfl (sumOf_ret v57 out _ (hM.sl 0 rfl)) ?_
                    rintro _ w6 ⟨rfl, x6⟩
                    have hM := hM.ext x6
                    try dsimp only [List.nil_append, List.cons_append, List.set_cons_zero, List.set_cons_succ, repl] at hM
                    have hS := hM.pick [0] (by decide)
                    refine H.back hS ?_
                    refine H.takeV 5 rfl rfl (by kernel_rfl) (by kernel_rfl) (by kernel_rfl) hS (Y.neB (Df.ad4 out) r4 rfl rfl Tryd.underlying77 Tryd.underlying5 (by kernel_rfl) (by kernel_rfl) rfl hr4l) (fun w' hM => Y.neB (Df.ad4 out) r4 rfl rfl Tryd.underlying77 Tryd.underlying5 (by kernel_rfl) (by kernel_rfl) rfl hr4l) rfl ?_
                    refine H.done (by kernel_rfl) ?_

                    refine X.join0  (Sub.cons rfl <| Sub.nil _) rfl hM
                rintro  w8 hM
                refine C.cond' rfl (fun hC7 => ?_) (fun hC7 => ?_)
                ·
                  refine C.seq <| C.region <| E.asg rfl rfl <| E.asg rfl rfl <| E.nil <| X.next <| C.ret <| X.retT <| ret2 rfl rfl rfl ?_
                  exact ⟨_, [], 26, rfl, (hM.pick [] (by decide)).nil u8 5, .inr ⟨by decide, by rw [hun, if_pos hC7], rfl⟩⟩
                ·
                  refine C.skip <| X.next <| C.seq <| C.seq <| C.region <| E.mv rfl rfl <| ?_
                  refine E.lenv rfl (Rd.shape ((by have := (hM.arg0 hp).partV (a := 2 + n) (b := l.length) (by omega) (by omega); rw [cut_drop] at this; exact this : RdL u8 _ (partV p (2 + n) l.length) (l.drop (2 + n))))) Tryd.underlying22 rfl ?_
                  rw [hrl]
                  refine E.bin rfl rfl rfl rfl <| E.nil <| X.next <| ?_
                  refine C.cond' rfl (fun hC8 => ?_) (fun hC8 => ?_)
                  ·
                    refine C.seq <| C.region <| E.asg rfl rfl <| E.asg rfl rfl <| E.nil <| X.next <| C.ret <| X.retT <| ret2 rfl rfl rfl ?_
                    exact ⟨_, [], 11, rfl, (hM.pick [] (by decide)).nil u8 5, .inr ⟨by decide, by rw [hun, if_neg hC7, if_pos (by omega)], rfl⟩⟩
                  ·
                    refine C.skip <| X.next <| C.seq <| C.region <| E.mv rfl rfl <| E.asg rfl rfl <| E.asg rfl rfl <| E.nil <| X.next <| C.ret <| ret2 rfl rfl rfl ?_
                    exact ⟨v57, out, 0, rfl, hM, .inl ⟨rfl, by rw [hun, if_neg hC7, if_neg (by omega)]⟩⟩

namespace Df
theorem inf_cm2 {l m : List UInt8} {lv lim : Nat} (hlv : lv ≤ 2) (hl : l.length ≤ 32768) (hlim : lim ≤ 16777216) (hm : m.length ≤ 1000) : inf (cmp l lv ++ m) (lim : Int) = if l.length ≤ lim then .ok (l, if lv = 0 then 8 * (sto l).length else (cbits lv (toks l 0)).length) else .error 4 := by
  have h1 := cmp_len hl hlv
  have h2 := inf_cmp (m := m) (lim := lim) hlv hl
  rw [inf, if_neg (by omega), if_neg (by rw [List.length_append]; omega), Int.toNat_natCast, h2]
theorem b1_ok (x : Int) : (b1 x).toNat % 31 = 1 ∧ (b1 x).toNat &&& 32 = 0 := by
  unfold b1
  split
  · decide
  · split <;> decide
/-- the zlib form, or a head of it that is short by k bytes of the checksum -/
theorem unw_head {l m : List UInt8} {lv lim : Nat} (hlv : lv ≤ 2) (hl : l.length ≤ 32768) (hlim : lim ≤ 16777216) (hll : l.length ≤ lim) (hm : m.length ≤ 1000) : unw ([120, b1 lv] ++ cmp l lv ++ m) (lim : Int) = if m.length < 4 then .error 10 else if ad4 l ≠ m.take 4 then .error 26 else if 4 < m.length then .error 11 else .ok l := by
  have h1 := cmp_len hl hlv
  have h2 := inf_cm2 (l := l) (m := m) hlv hl hlim hm
  rw [if_pos hll] at h2
  have h3 := cmp_bytes l lv
  have e : [120, b1 lv] ++ cmp l lv ++ m = 120 :: b1 lv :: (cmp l lv ++ m) := rfl
  obtain ⟨hb, hc⟩ := b1_ok lv
  rw [e, unw, if_neg (by omega), if_neg (by simp only [List.length_cons, List.length_append]; omega), if_neg (by simp only [List.length_cons]; omega)]
  have g0 : ((120 :: b1 lv :: (cmp l lv ++ m)).getD 0 0).toNat = 120 := rfl
  have g1 : ((120 :: b1 lv :: (cmp l lv ++ m)).getD 1 0).toNat = (b1 lv).toNat := rfl
  have d2 : (120 :: b1 lv :: (cmp l lv ++ m)).drop 2 = cmp l lv ++ m := rfl
  rw [g0, g1, if_neg (by omega), if_neg (by rw [hc]; simp), d2, h2]
  simp only
  rw [h3]
  have d3 : (120 :: b1 lv :: (cmp l lv ++ m)).drop (2 + (cmp l lv).length) = m := by
    rw [Nat.add_comm]
    show (cmp l lv ++ m).drop (cmp l lv).length = m
    exact List.drop_left
  rw [d3]
end Df
end Go.Proofs.YtcmgbjmcklfkcaaDoor
