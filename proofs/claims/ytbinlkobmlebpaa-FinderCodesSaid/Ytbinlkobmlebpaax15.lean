/- Texts of the claim, laid together: Fd16, FdA. -/
import Derived.Test.Ytbinlkobmlebpaax0
import Derived.Test.Ytbinlkobmlebpaax13
import Derived.Test.Ytbinlkobmlebpaax14
set_option linter.unusedSimpArgs false
set_option linter.unusedVariables false
namespace Go.Proofs.Ytbinlkobmlebpaa
open Go.RowKit Sym
theorem eqv_Tapi_Mark (w : World) (a0 a1 a2 a3 b0 b1 b2 b3 : Int) : (Op.equal 24 (.agg #[i64 a0, i64 a1, i64 a2, i64 a3]) (.agg #[i64 b0, i64 b1, i64 b2, i64 b3])).run Try.prog w = .ok (decide ((a0 = b0) ∧ (a1 = b1) ∧ (a2 = b2) ∧ (a3 = b3) ∧ True)) w := (eqS (d := 9999) Try.underlying24 (by kernel_rfl) (eqF_cons (a := (i64 a0)) (b := (i64 b0)) (by decide) (by kernel_rfl) (by kernel_rfl) (eqI 9998 w _ _ Try.underlying3) (eqF_cons (a := (i64 a1)) (b := (i64 b1)) (by decide) (by kernel_rfl) (by kernel_rfl) (eqI 9998 w _ _ Try.underlying3) (eqF_cons (a := (i64 a2)) (b := (i64 b2)) (by decide) (by kernel_rfl) (by kernel_rfl) (eqI 9998 w _ _ Try.underlying3) (eqF_cons (a := (i64 a3)) (b := (i64 b3)) (by decide) (by kernel_rfl) (by kernel_rfl) (eqI 9998 w _ _ Try.underlying3) (eqF_nil 9999 w _ _))))))
theorem eqT_Tapi_Mark : EqT Try.prog 24 4 := ⟨by kernel_rfl, fun w xs ys h1 h2 => match xs, ys, h1, h2 with
 | [a0, a1, a2, a3], [b0, b1, b2, b3], _, _ => ⟨_, eqv_Tapi_Mark w a0 a1 a2 a3 b0 b1 b2 b3, by simp [and_assoc]⟩⟩
theorem eqv_Tapi_Box (w : World) (a0 a1 a2 a3 b0 b1 b2 b3 : Int) : (Op.equal 59 (.agg #[i64 a0, i64 a1, i64 a2, i64 a3]) (.agg #[i64 b0, i64 b1, i64 b2, i64 b3])).run Try.prog w = .ok (decide ((a0 = b0) ∧ (a1 = b1) ∧ (a2 = b2) ∧ (a3 = b3) ∧ True)) w := (eqS (d := 9999) Try.underlying59 (by kernel_rfl) (eqF_cons (a := (i64 a0)) (b := (i64 b0)) (by decide) (by kernel_rfl) (by kernel_rfl) (eqI 9998 w _ _ Try.underlying3) (eqF_cons (a := (i64 a1)) (b := (i64 b1)) (by decide) (by kernel_rfl) (by kernel_rfl) (eqI 9998 w _ _ Try.underlying3) (eqF_cons (a := (i64 a2)) (b := (i64 b2)) (by decide) (by kernel_rfl) (by kernel_rfl) (eqI 9998 w _ _ Try.underlying3) (eqF_cons (a := (i64 a3)) (b := (i64 b3)) (by decide) (by kernel_rfl) (by kernel_rfl) (eqI 9998 w _ _ Try.underlying3) (eqF_nil 9999 w _ _))))))
theorem eqT_Tapi_Box : EqT Try.prog 59 4 := ⟨by kernel_rfl, fun w xs ys h1 h2 => match xs, ys, h1, h2 with
 | [a0, a1, a2, a3], [b0, b1, b2, b3], _, _ => ⟨_, eqv_Tapi_Box w a0 a1 a2 a3 b0 b1 b2 b3, by simp [and_assoc]⟩⟩
open Fi
def mkl (m : Mk) : List Int := [m.x, m.y, m.s, m.n]
def bxl (m : Fi.Bx) : List Int := [m.x, m.y, m.w, m.h]
theorem mkl_inj {a b : Mk} : mkl a = mkl b ↔ a = b := by cases a; cases b; simp [mkl]
theorem bxl_inj {a b : Fi.Bx} : bxl a = bxl b ↔ a = b := by cases a; cases b; simp [bxl]
theorem Marks_ret (p q : Value) (l m : List Mk) (w : World) (hp : RdF mkc 4 w p l) (hq : RdF mkc 4 w q m) (hlm : l.length ≤ 1000000) :
  Ret Try.prog 27 #[p, q] w fun v w' => v = .bool (decide (l = m)) ∧ Ext w w' := by
 have hM := M.start w
 refine enter Try.func27 rfl (by kernel_rfl) Try.ntmps27 rfl ?_
 refine C.seq <| C.region <| E.asg rfl rfl <| E.nil <| X.next <| C.seq <| C.seq <| C.region <| E.mv rfl rfl <| ?_
 refine E.lenv rfl (RdF.shape (hM.argF0 hp)) Try.underlying22 rfl ?_
 refine E.mv rfl rfl <| ?_
 refine E.lenv rfl (RdF.shape (hM.argF0 hq)) Try.underlying22 rfl ?_
 refine E.bin rfl rfl rfl rfl <| E.nil <| X.next <| ?_
 refine C.cond' rfl (fun hC0 => ?_) (fun hC0 => ?_)
 ·
  have hne : l ≠ m := fun e => hC0 (by rw [e])
  refine C.seq <| C.region <| E.asg rfl rfl <| E.nil <| X.next <| C.ret <| X.retT <| ret1 rfl rfl ?_
  exact ⟨by rw [decide_eq_false hne], hM.toExt⟩
 ·
  have hl : l.length = m.length := by omega
  refine C.skip <| X.next <| C.seq <| C.seq <| C.region <| E.asg rfl rfl <| E.nil <| X.next <| C.block <| ?_

  refine C.loop1 [(0, _), (1, _)] rfl (fun (i : Nat) => [(5, i64 i)]) (fun (i : Nat) w' => M w (Nn) w' [] ∧ i ≤ l.length ∧ ∀ j, j < i → l[j]? = m[j]?) (fun (i : Nat) => l.length - i) 0 ?_ ?_ ?_
  · exact Sub.cons rfl <| Sub.nil _
  · exact ⟨hM, Nat.zero_le _, fun j hj => by omega⟩
  rintro i w0 ⟨hM, hi, hI⟩
  refine C.seq <| C.seq <| C.region <| E.mv rfl rfl <| E.mv rfl rfl <| ?_
  refine E.lenv rfl (RdF.shape (hM.argF0 hp)) Try.underlying22 rfl ?_
  refine E.bin rfl rfl rfl rfl <| E.nil <| X.next <| ?_
  refine C.cond' rfl (fun hC1 => ?_) (fun hC1 => ?_)
  ·
   have hi' : i < l.length := by omega
   have him : i < m.length := by omega
   refine C.skip <| X.next <| C.seq <| C.block <| C.seq <| C.drawn (by kernel_rfl) (by kernel_rfl) <| Q.mv rfl rfl <| Q.mv rfl rfl <| ?_
   refine Q.idxF (k := i) rfl rfl (hM.argF0 hp) rfl hi' (by decide) Try.underlying22 (by kernel_rfl) rfl ?_
   refine Q.loadA (cs := mkc l[i]) rfl Try.underlying24 rfl (by kernel_rfl) ((hM.argF0 hp).all hi') rfl ?_
   refine Q.mv rfl rfl <| Q.mv rfl rfl <| ?_
   refine Q.idxF (k := i) rfl rfl (hM.argF0 hq) rfl him (by decide) Try.underlying22 (by kernel_rfl) rfl ?_
   refine Q.loadA (cs := mkc m[i]) rfl Try.underlying24 rfl (by kernel_rfl) ((hM.argF0 hq).all him) rfl ?_
   refine Q.neA (mkl l[i]) (mkl m[i]) eqT_Tapi_Mark rfl rfl rfl rfl rfl ?_
   refine Q.nil <| fun w1 hx1 => ?_
   have hM := hM.ext hx1
   refine X.next <| ?_
   refine C.cond' rfl (fun hC2 => ?_) (fun hC2 => ?_)
   ·
    have hne : l ≠ m := fun e => by subst e; exact hC2 rfl
    refine C.seq <| C.region <| E.asg rfl rfl <| E.nil <| X.next <| C.ret <| X.retB <| X.retT <| X.retT <| X.retB <| X.retT <| ret1 rfl rfl ?_
    exact ⟨by rw [decide_eq_false hne], hM.toExt⟩
   ·
    refine C.skip <| X.outN <| X.next <| C.region <| E.mv rfl rfl <| ?_
    refine E.add rfl rfl (by omega) rfl ?_

    refine E.asg rfl rfl <| E.nil <| X.again1 (i + 1) (Sub.cons rfl <| Sub.nil _) rfl ⟨hM, by omega, fun j hj => by
     by_cases e : j = i
     · subst e; rw [List.getElem?_eq_getElem hi', List.getElem?_eq_getElem him]; exact congrArg some (mkl_inj.1 (Decidable.not_not.1 hC2))
     · exact hI j (by omega)⟩ (by omega)
  ·
   have hlm : l = m := List.ext_getElem? fun j => by
    by_cases h : j < l.length
    · exact hI j (by omega)
    · rw [List.getElem?_eq_none (by omega), List.getElem?_eq_none (by omega)]
   refine C.exit <| X.exitT <| X.exitT <| X.outE <| X.next <| C.seq <| C.region <| E.asg rfl rfl <| E.nil <| X.next <| C.ret <| ret1 rfl rfl ?_
   exact ⟨by rw [decide_eq_true hlm], hM.toExt⟩
theorem Boxes_ret (p q : Value) (l m : List Fi.Bx) (w : World) (hp : RdF bxc 4 w p l) (hq : RdF bxc 4 w q m) (hlm : l.length ≤ 1000000) :
  Ret Try.prog 18 #[p, q] w fun v w' => v = .bool (decide (l = m)) ∧ Ext w w' := by
 have hM := M.start w
 refine enter Try.func18 rfl (by kernel_rfl) Try.ntmps18 rfl ?_
 refine C.seq <| C.region <| E.asg rfl rfl <| E.nil <| X.next <| C.seq <| C.seq <| C.region <| E.mv rfl rfl <| ?_
 refine E.lenv rfl (RdF.shape (hM.argF0 hp)) Try.underlying39 rfl ?_
 refine E.mv rfl rfl <| ?_
 refine E.lenv rfl (RdF.shape (hM.argF0 hq)) Try.underlying39 rfl ?_
 refine E.bin rfl rfl rfl rfl <| E.nil <| X.next <| ?_
 refine C.cond' rfl (fun hC0 => ?_) (fun hC0 => ?_)
 ·
  have hne : l ≠ m := fun e => hC0 (by rw [e])
  refine C.seq <| C.region <| E.asg rfl rfl <| E.nil <| X.next <| C.ret <| X.retT <| ret1 rfl rfl ?_
  exact ⟨by rw [decide_eq_false hne], hM.toExt⟩
 ·
  have hl : l.length = m.length := by omega
  refine C.skip <| X.next <| C.seq <| C.seq <| C.region <| E.asg rfl rfl <| E.nil <| X.next <| C.block <| ?_

  refine C.loop1 [(0, _), (1, _)] rfl (fun (i : Nat) => [(5, i64 i)]) (fun (i : Nat) w' => M w (Nn) w' [] ∧ i ≤ l.length ∧ ∀ j, j < i → l[j]? = m[j]?) (fun (i : Nat) => l.length - i) 0 ?_ ?_ ?_
  · exact Sub.cons rfl <| Sub.nil _
  · exact ⟨hM, Nat.zero_le _, fun j hj => by omega⟩
  rintro i w0 ⟨hM, hi, hI⟩
  refine C.seq <| C.seq <| C.region <| E.mv rfl rfl <| E.mv rfl rfl <| ?_
  refine E.lenv rfl (RdF.shape (hM.argF0 hp)) Try.underlying39 rfl ?_
  refine E.bin rfl rfl rfl rfl <| E.nil <| X.next <| ?_
  refine C.cond' rfl (fun hC1 => ?_) (fun hC1 => ?_)
  ·
   have hi' : i < l.length := by omega
   have him : i < m.length := by omega
   refine C.skip <| X.next <| C.seq <| C.block <| C.seq <| C.drawn (by kernel_rfl) (by kernel_rfl) <| Q.mv rfl rfl <| Q.mv rfl rfl <| ?_
   refine Q.idxF (k := i) rfl rfl (hM.argF0 hp) rfl hi' (by decide) Try.underlying39 (by kernel_rfl) rfl ?_
   refine Q.loadA (cs := bxc l[i]) rfl Try.underlying59 rfl (by kernel_rfl) ((hM.argF0 hp).all hi') rfl ?_
   refine Q.mv rfl rfl <| Q.mv rfl rfl <| ?_
   refine Q.idxF (k := i) rfl rfl (hM.argF0 hq) rfl him (by decide) Try.underlying39 (by kernel_rfl) rfl ?_
   refine Q.loadA (cs := bxc m[i]) rfl Try.underlying59 rfl (by kernel_rfl) ((hM.argF0 hq).all him) rfl ?_
   refine Q.neA (bxl l[i]) (bxl m[i]) eqT_Tapi_Box rfl rfl rfl rfl rfl ?_
   refine Q.nil <| fun w1 hx1 => ?_
   have hM := hM.ext hx1
   refine X.next <| ?_
   refine C.cond' rfl (fun hC2 => ?_) (fun hC2 => ?_)
   ·
    have hne : l ≠ m := fun e => by subst e; exact hC2 rfl
    refine C.seq <| C.region <| E.asg rfl rfl <| E.nil <| X.next <| C.ret <| X.retB <| X.retT <| X.retT <| X.retB <| X.retT <| ret1 rfl rfl ?_
    exact ⟨by rw [decide_eq_false hne], hM.toExt⟩
   ·
    refine C.skip <| X.outN <| X.next <| C.region <| E.mv rfl rfl <| ?_
    refine E.add rfl rfl (by omega) rfl ?_

    refine E.asg rfl rfl <| E.nil <| X.again1 (i + 1) (Sub.cons rfl <| Sub.nil _) rfl ⟨hM, by omega, fun j hj => by
     by_cases e : j = i
     · subst e; rw [List.getElem?_eq_getElem hi', List.getElem?_eq_getElem him]; exact congrArg some (bxl_inj.1 (Decidable.not_not.1 hC2))
     · exact hI j (by omega)⟩ (by omega)
  ·
   have hlm : l = m := List.ext_getElem? fun j => by
    by_cases h : j < l.length
    · exact hI j (by omega)
    · rw [List.getElem?_eq_none (by omega), List.getElem?_eq_none (by omega)]
   refine C.exit <| X.exitT <| X.exitT <| X.outE <| X.next <| C.seq <| C.region <| E.asg rfl rfl <| E.nil <| X.next <| C.ret <| ret1 rfl rfl ?_
   exact ⟨by rw [decide_eq_true hlm], hM.toExt⟩
set_option maxHeartbeats 1000000 in
theorem pattern_ret (W H x y s : Nat) (w : World) (hs : 1 ≤ s ∧ s ≤ 6) (hW : W ≤ 100) (hH : H ≤ 100) (hx : x + 7 * s ≤ W) (hy : y + 7 * s ≤ H) :
  Ret Try.prog 28 #[i64 W, i64 H, i64 x, i64 y, i64 s] w fun v w' => ∃ vo, v = mat W H vo ∧ M w Nn w' [Rg.sl Value.bool 4 vo (pat W H x y s)] := by
 have hM := M.start w
 refine enter Try.func28 rfl (by kernel_rfl) Try.ntmps28 rfl ?_
 refine C.seq <| C.region <| ?_
 refine E.allocM (z := .agg #[.int .i64 0, .int .i64 0, .slice none 0 0]) (cs := [.int .i64 0, .int .i64 0, .slice none 0 0]) hM (by kernel_rfl) rfl rfl ?_
 intro b10 w0 hM
 try dsimp only [Za, Zb, Zc, Zd, repl] at hM
 refine E.nil <| X.next <| C.seq <| C.region <| E.mv rfl rfl <| E.mv rfl rfl <| E.mv rfl rfl <| E.mv rfl rfl <| ?_
 have hWH : W * H ≤ 100 * 100 := Nat.mul_le_mul hW hH
 refine E.mulN (a := W) (b := H) rfl rfl (by omega) rfl ?_
 refine E.makeM (by_ := 1) (enc := Value.bool) (n := W * H) false hM rfl Try.underlying35 (by kernel_rfl) rfl (by omega) (by omega) rfl ?_
 intro v20 w1 hM
 try dsimp only [Za, Zb, Zc, Zd, repl] at hM
 refine E.buildC (cs := [i64 W, i64 H, v20]) [.int .i64 0, .int .i64 0, .slice none 0 0] [0, 1, 2] rfl (by obtain ⟨a, c, rfl⟩ := Rd.shape (hM.sl 1 rfl); rfl) (by obtain ⟨a, c, rfl⟩ := Rd.shape (hM.sl 1 rfl); kernel_rfl) rfl ?_
 refine E.allocM (z := .agg #[.int .i64 0, .int .i64 0, .slice none 0 0]) (cs := [.int .i64 0, .int .i64 0, .slice none 0 0]) hM (by kernel_rfl) rfl rfl ?_
 intro b11 w2 hM
 try dsimp only [Za, Zb, Zc, Zd, repl] at hM
 first
  | refine E.storeAM 0 hM rfl rfl rfl (by kernel_rfl) rfl ?_ ?_
  | refine E.storeAM 1 hM rfl rfl rfl (by kernel_rfl) rfl ?_ ?_
  | refine E.storeAM 2 hM rfl rfl rfl (by kernel_rfl) rfl ?_ ?_
  | refine E.storeAM 3 hM rfl rfl rfl (by kernel_rfl) rfl ?_ ?_
  | refine E.storeAM 4 hM rfl rfl rfl (by kernel_rfl) rfl ?_ ?_
 · exact ones (by rfl) <| ones (by rfl) <| ones (by exact (hM.sl 1 rfl).one) <| ones_nil
 intro w3 hM
 try dsimp only [Za, Zb, Zc, Zd, repl] at hM
 refine E.nil <| X.next <| C.seq <| C.seq <| C.region <| E.mv rfl rfl <| ?_
 refine E.mulN (a := 7) (b := s) rfl rfl (by omega) rfl ?_
 refine E.mv rfl rfl <| E.nil <| X.next <| C.block <| ?_

 refine C.loop2 [(0, _), (2, _), (3, _), (4, _), (10, _), (11, _), (23, _)] rfl (fun (j : Nat) (l : (List Bool)) => [(24, i64 j)]) (fun (j : Nat) (l : (List Bool)) w' => M w (Nn) w' [Rg.blk b10 37 [i64 0, i64 0, .slice none 0 0], Rg.sl Value.bool 4 v20 l, Rg.blk b11 37 [i64 W, i64 H, v20]] ∧ j ≤ 7 * s ∧ PI W H x y s j 0 l) (fun (j : Nat) (l : (List Bool)) => 7 * s - j) 0 (List.replicate (W * H) false) ?_ ?_ ?_
 · exact Sub.cons rfl <| Sub.nil _
 · exact ⟨hM, Nat.zero_le _, PI.init⟩
 rintro j l w4 ⟨hM, hj, hI⟩
 refine C.seq <| C.region <| E.bin rfl rfl rfl rfl <| E.nil <| X.next <| C.seq <| ?_
 refine C.cond' rfl (fun hC0 => ?_) (fun hC0 => ?_)
 ·
  have hj' : j < 7 * s := by omega
  refine C.skip <| X.next <| C.seq <| C.block <| C.seq <| C.region <| E.mv rfl rfl <| E.asg rfl rfl <| E.nil <| X.next <| C.seq <| C.region <| E.mv rfl rfl <| ?_
  refine E.mulN (a := 7) (b := s) rfl rfl (by omega) rfl ?_
  refine E.mv rfl rfl <| E.nil <| X.next <| C.block <| ?_

  refine C.loop2 [(0, _), (2, _), (3, _), (4, _), (10, _), (11, _), (12, _), (23, _), (24, _), (28, _)] rfl (fun (i : Nat) (l : (List Bool)) => [(29, i64 i)]) (fun (i : Nat) (l : (List Bool)) w' => M w (Nn) w' [Rg.blk b10 37 [i64 0, i64 0, .slice none 0 0], Rg.sl Value.bool 4 v20 l, Rg.blk b11 37 [i64 W, i64 H, v20]] ∧ i ≤ 7 * s ∧ PI W H x y s j i l) (fun (i : Nat) (l : (List Bool)) => 7 * s - i) 0 l ?_ ?_ ?_
  · exact Sub.cons rfl <| Sub.nil _
  · exact ⟨hM, Nat.zero_le _, hI⟩
  rintro i l w5 ⟨hM, hi, hI⟩
  refine C.seq <| C.region <| E.bin rfl rfl rfl rfl <| E.nil <| X.next <| C.seq <| ?_
  refine C.cond' rfl (fun hC1 => ?_) (fun hC1 => ?_)
  ·
   have hi' : i < 7 * s := by omega
   have hd1 := Nat.div_le_self i s
   have hd2 := Nat.div_le_self j s
   have hd3 := Int.natCast_nonneg (i / s)
   have hd4 := Int.natCast_nonneg (j / s)
   have hrow : (y + j) * W + W ≤ W * H := by
    have h1 := Nat.mul_le_mul_right W (show y + j + 1 ≤ H by omega)
    rw [Nat.add_mul, Nat.one_mul, Nat.mul_comm H W] at h1; exact h1
   refine C.skip <| X.next <| C.seq <| C.block <| C.seq <| C.region <| E.mv rfl rfl <| E.asg rfl rfl <| E.nil <| X.next <| C.seq <| C.drawn (by kernel_rfl) (by kernel_rfl) <| Q.mv rfl rfl <| Q.mv rfl rfl <| ?_
   refine Q.quo rfl rfl (by omega) (quoN (a := i) (b := s) (by omega) (by omega)) rfl ?_
   refine Q.sub' rfl rfl (by omega) rfl ?_
   refine Q.mv rfl rfl <| Q.mv rfl rfl <| ?_
   refine Q.quo rfl rfl (by omega) (quoN (a := i) (b := s) (by omega) (by omega)) rfl ?_
   refine Q.sub' rfl rfl (by omega) rfl ?_
   refine Q.max2 rfl rfl rfl <| Q.mv rfl rfl <| Q.mv rfl rfl <| ?_
   refine Q.quo rfl rfl (by omega) (quoN (a := j) (b := s) (by omega) (by omega)) rfl ?_
   refine Q.sub' rfl rfl (by omega) rfl ?_
   refine Q.mv rfl rfl <| Q.mv rfl rfl <| ?_
   refine Q.quo rfl rfl (by omega) (quoN (a := j) (b := s) (by omega) (by omega)) rfl ?_
   refine Q.sub' rfl rfl (by omega) rfl ?_
   refine Q.max2 rfl rfl rfl <| Q.max2 rfl rfl rfl <| Q.asg rfl rfl <| Q.nil <| fun w6 hx6 => ?_
   have hM := hM.ext hx6
   refine X.next <| C.region <| ?_
   refine E.fld (o := 2) (sz := 0) rfl Try.underlying37 rfl rfl (by kernel_rfl) rfl ?_
   refine E.load rfl Try.underlying35 rfl (hM.bcell 2 rfl rfl) rfl ?_
   refine E.mv rfl rfl <| E.mv rfl rfl <| ?_
   refine E.addN (a := y) (b := j) rfl rfl (by omega) rfl ?_
   refine E.mv rfl rfl <| ?_
   refine E.mulN (a := y + j) (b := W) rfl rfl (by omega) rfl ?_
   refine E.mv rfl rfl <| ?_
   refine E.addN (a := (y + j) * W) (b := x) rfl rfl (by omega) rfl ?_
   refine E.mv rfl rfl <| ?_
   refine E.addN (a := (y + j) * W + x) (b := i) rfl rfl (by omega) rfl ?_
   refine E.mv rfl rfl <| E.bin rfl rfl rfl rfl <| ?_
   refine E.idx1 (k := (y + j) * W + x + i) rfl rfl (hM.sl 1 rfl) rfl (by rw [hI.1]; omega) Try.underlying35 (by kernel_rfl) rfl ?_
   refine E.storeL 1 (pd s j i) hM rfl rfl rfl (by kernel_rfl) rfl rfl (by rw [hI.1]; omega) ?_
   intro w7 hM
   try dsimp only [Za, Zb, Zc, Zd, repl] at hM
   refine E.nil <| X.outN <| X.next <| C.region <| ?_
   refine E.addN (a := i) (b := 1) rfl rfl (by omega) rfl ?_

   refine E.mv rfl rfl <| E.nil <| X.again2 (i + 1) _ (Sub.cons rfl <| Sub.nil _) rfl ⟨hM, by omega, hI.set hi' hx⟩ (by omega)
  ·
   obtain rfl : i = 7 * s := by omega
   refine C.exit <| X.exitT <| X.exitT <| X.outE <| X.outN <| X.next <| C.region <| ?_
   refine E.addN (a := j) (b := 1) rfl rfl (by omega) rfl ?_

   refine E.mv rfl rfl <| E.nil <| X.again2 (j + 1) l (Sub.cons rfl <| Sub.nil _) rfl ⟨hM, by omega, hI.row⟩ (by omega)
 ·
  obtain rfl : j = 7 * s := by omega
  rw [hI.done] at hM
  refine C.exit <| X.exitT <| X.exitT <| X.outE <| X.next <| C.seq <| C.region <| ?_
  refine E.loadA rfl Try.underlying37 rfl (by kernel_rfl) (by exact hM.bat 2 rfl) rfl ?_
  first
   | refine E.storeAM 0 hM rfl rfl rfl (by kernel_rfl) rfl ?_ ?_
   | refine E.storeAM 1 hM rfl rfl rfl (by kernel_rfl) rfl ?_ ?_
   | refine E.storeAM 2 hM rfl rfl rfl (by kernel_rfl) rfl ?_ ?_
   | refine E.storeAM 3 hM rfl rfl rfl (by kernel_rfl) rfl ?_ ?_
   | refine E.storeAM 4 hM rfl rfl rfl (by kernel_rfl) rfl ?_ ?_
  · exact ones (by rfl) <| ones (by rfl) <| ones (by exact (hM.sl 1 rfl).one) <| ones_nil
  intro w8 hM
  try dsimp only [Za, Zb, Zc, Zd, repl] at hM
  refine E.nil <| X.next <| C.ret <| retA rfl rfl Try.underlying37 rfl (by exact hM.blk 0 rfl) (by kernel_rfl) ?_
  exact ⟨v20, rfl, hM.pick [1] (by decide)⟩
end Go.Proofs.Ytbinlkobmlebpaa
namespace Go.Proofs.Ytbinlkobmlebpaa
open Go.RowKit Sym
structure Rp (W : Nat) (dk : List Bool) (rp pr : Nat → Nat) : Prop where
 ed : ∀ i, i < dk.length → dk[i]? = some true → ∀ k ∈ [1, W - 1, W, W + 1], k ≤ i → dk[i - k]? = some true → rp i = rp (i - k)
 on : ∀ i, i < dk.length → dk[i]? = some true → rp i ≤ i ∧ dk[rp i]? = some true ∧ rp (rp i) = rp i
 way : ∀ i, i < dk.length → dk[i]? = some true → rp i ≠ i → Ed W true dk true dk.length i (pr i) ∧ rp (pr i) = rp i ∧ pr i < i
section
open Uf
variable {W : Nat} {dk : List Bool} {rp pr : Nat → Nat}
theorem Rp.to (h : Rp W dk rp pr) (hW : 1 ≤ W) {i j : Nat} (hR : RR W true dk true i j) : rp i = rp j := by
 induction hR with
 | refl i => rfl
 | @edge i j e =>
  have hi := (List.getElem?_eq_some_iff.1 e.2.1).1
  have hb : ∃ k ∈ [1, W - 1, W, W + 1], k ≤ i ∧ j = i - k := by
   rcases e.2.2.2 with (⟨a, b⟩ | ⟨a, b⟩) | ⟨_, a, b, c⟩ | ⟨_, a, b, c⟩
   · exact ⟨1, by simp, by omega, by omega⟩
   · exact ⟨W, by simp, by omega, by omega⟩
   · exact ⟨W + 1, by simp, by omega, by omega⟩
   · exact ⟨W - 1, by simp, by omega, by omega⟩
  obtain ⟨k, hk, h1, rfl⟩ := hb
  exact h.ed i hi e.2.1 k hk h1 e.2.2.1
 | symm _ ih => exact ih.symm
 | trans _ _ ih1 ih2 => exact ih1.trans ih2
theorem Rp.root (h : Rp W dk rp pr) : ∀ (i : Nat), DD dk true i → RR W true dk true i (rp i) := by
  intro i
  induction i using Nat.strongRecOn with
  | _ i ih =>
    intro hi
    by_cases e : rp i = i
    · rw [e]; exact Cl.refl i
    · obtain ⟨h1, h2, h3⟩ := h.way i (List.getElem?_eq_some_iff.1 hi).1 hi e
      have := ih (pr i) h3 h1.2.2.1
      rw [h2] at this
      exact Cl.trans (.edge h1) this
theorem Rp.iff (h : Rp W dk rp pr) (hW : 1 ≤ W) {i j : Nat} (hi : DD dk true i) (hj : DD dk true j) : RR W true dk true i j ↔ rp i = rp j := by
 refine ⟨h.to hW, fun e => ?_⟩
 have h1 := h.root i hi
 rw [e] at h1
 exact Cl.trans h1 (Cl.symm (h.root j hj))
theorem Rp.fst (h : Rp W dk rp pr) (hW : 1 ≤ W) (i : Nat) : Fst (DD dk true) (RR W true dk true) i ↔ dk[i]? = some true ∧ rp i = i := by
  constructor
  · rintro ⟨h1, h2⟩
    refine ⟨h1, Decidable.byContradiction fun e => ?_⟩
    obtain ⟨k1, k2, k3⟩ := h.on i (List.getElem?_eq_some_iff.1 h1).1 h1
    exact h2 (rp i) (by omega) k2 ((h.iff hW k2 h1).2 k3)
  · rintro ⟨h1, h2⟩
    refine ⟨h1, fun j hj hD hR => ?_⟩
    have := h.to hW hR
    have := (h.on j (List.getElem?_eq_some_iff.1 hD).1 hD).1
    omega
theorem Rp.nf (h : Rp W dk rp pr) (hW : 1 ≤ W) : ∀ k, nf (DD dk true) (RR W true dk true) k = ((List.range k).filter fun i => decide (dk[i]? = some true ∧ rp i = i)).length
  | 0 => rfl
  | k + 1 => by
    rw [List.range_succ, List.filter_append, List.length_append, ← Rp.nf h hW k]
    by_cases e : Fst (DD dk true) (RR W true dk true) k
    · rw [nf_succ_pos e]; simp only [List.filter_cons, decide_eq_true_eq, if_pos ((h.fst hW k).1 e)]; rfl
    · rw [nf_succ_neg e]
      have : ¬ (dk[k]? = some true ∧ rp k = k) := fun x => e ((h.fst hW k).2 x)
      simp only [List.filter_cons, decide_eq_true_eq, if_neg this]; rfl
end
namespace Fi
theorem ex_mrk : mrk 20 24 (pat 20 24 3 5 2) (shq true) true = [⟨140, 168, 28, 6⟩] := by decide +kernel
theorem ex_sort : isort key [(⟨140, 168, 28, 6⟩ : Mk)] = [⟨140, 168, 28, 6⟩] := by decide +kernel
def exs : List Bool := [false, true, false, true, true, false, true, false, true, true, true, true, false, true, true]
theorem ex_str : strs exs 5 3 2 0 = [⟨1, 0, 4, 2⟩, ⟨0, 2, 5, 1⟩] := by decide +kernel
def ma : Mk := ⟨140, 140, 28, 0⟩
def mb : Mk := ⟨532, 140, 28, 0⟩
def mc : Mk := ⟨140, 532, 28, 0⟩
theorem ex_tri : trs [mc, ma, mb] = [(1, 2, 0)] := by decide +kernel
theorem ex_dim {v : Value} {ru rv : Int} (h1 : isR 153664 ru) (h2 : isR 153664 rv) : dim ru rv 28 28 28 = (21, 0) := by
 have e1 : ru = 392 := isR_one h1 ⟨by decide, by decide, by decide⟩
 have e2 : rv = 392 := isR_one h2 ⟨by decide, by decide, by decide⟩
 subst e1; subst e2; decide
instance (W : Nat) (eight : Bool) (i j : Nat) : Decidable (Back W eight i j) := by unfold Back; exact inferInstance
instance (W : Nat) (eight : Bool) (dk : List Bool) (dark : Bool) (k i j : Nat) : Decidable (Ed W eight dk dark k i j) := by unfold Ed; exact inferInstance
def pxk : List Bool := pat 20 24 3 5 2
def inn (i : Nat) : Bool := decide (7 ≤ i % 20 ∧ i % 20 < 13 ∧ 9 ≤ i / 20 ∧ i / 20 < 15)
def rpk (i : Nat) : Nat := if inn i then 187 else 103
def prk (i : Nat) : Nat := if inn i then (if 7 < i % 20 then i - 1 else i - 20) else if (i % 20 < 5 ∨ i / 20 < 7 ∨ 17 ≤ i / 20) ∧ 3 < i % 20 then i - 1 else i - 20
theorem pk_len : pxk.length = 480 := pat_len _ _ _ _ _
theorem rp_pk : Rp 20 pxk rpk prk := ⟨by rw [pk_len]; decide +kernel, by rw [pk_len]; decide +kernel, by rw [pk_len]; decide +kernel⟩
theorem nf_pk : nf (DD pxk true) (RR 20 true pxk true) 480 = 2 := by rw [rp_pk.nf (by decide)]; decide +kernel
theorem nf_pk0 : nf (DD pxk true) (RR 20 true pxk true) 103 = 0 := by rw [rp_pk.nf (by decide)]; decide +kernel
theorem nf_pk1 : nf (DD pxk true) (RR 20 true pxk true) 187 = 1 := by rw [rp_pk.nf (by decide)]; decide +kernel
open Uf in
theorem blob_pk0 : BSpec (DD pxk true) (RR 20 true pxk true) 20 103 480 ⟨3, 5, 14, 14, (cnt (DD pxk true) (RR 20 true pxk true) 103 480 : Int), 3, 5⟩ where
 fx := rfl
 fy := rfl
 y := rfl
 all i hi hD hR := by
  have h1 := rp_pk.to (by decide) hR
  have hc : ∀ i, i < 480 → pxk[i]? = some true → rpk 103 = rpk i → 3 ≤ i % 20 ∧ i % 20 < 17 ∧ i / 20 < 19 := by decide +kernel
  have := hc i hi hD h1
  simp only; omega
 left := ⟨103, by decide, by decide +kernel, Cl.refl 103, by decide⟩
 right := ⟨116, by decide, by decide +kernel, (rp_pk.iff (by decide) (by decide +kernel) (by decide +kernel)).2 (by decide +kernel), by decide⟩
 low := ⟨363, by decide, by decide +kernel, (rp_pk.iff (by decide) (by decide +kernel) (by decide +kernel)).2 (by decide +kernel), by decide⟩
 area := rfl
open Uf in
theorem blob_pk1 : BSpec (DD pxk true) (RR 20 true pxk true) 20 187 480 ⟨7, 9, 6, 6, (cnt (DD pxk true) (RR 20 true pxk true) 187 480 : Int), 7, 9⟩ where
 fx := rfl
 fy := rfl
 y := rfl
 all i hi hD hR := by
  have h1 := rp_pk.to (by decide) hR
  have hc : ∀ i, i < 480 → pxk[i]? = some true → rpk 187 = rpk i → 7 ≤ i % 20 ∧ i % 20 < 13 ∧ i / 20 < 15 := by decide +kernel
  have := hc i hi hD h1
  simp only; omega
 left := ⟨187, by decide, by decide +kernel, Cl.refl 187, by decide⟩
 right := ⟨192, by decide, by decide +kernel, (rp_pk.iff (by decide) (by decide +kernel) (by decide +kernel)).2 (by decide +kernel), by decide⟩
 low := ⟨287, by decide, by decide +kernel, (rp_pk.iff (by decide) (by decide +kernel) (by decide +kernel)).2 (by decide +kernel), by decide⟩
 area := rfl
theorem ellP_pk : ellP pxk 20 3 5 14 14 := by decide +kernel
theorem ex_els {lab : List Int} {bl : List Bl} (h : Labelled (DD pxk true) (RR 20 true pxk true) 20 480 lab bl) : els pxk 20 bl = [⟨3, 5, 14, 14⟩] := by
 have h1 := h.num
 rw [nf_pk] at h1
 obtain ⟨b, c, rfl⟩ : ∃ b c, bl = [b, c] := by
  match bl, h1 with
  | [b, c], _ => exact ⟨b, c, rfl⟩
 obtain ⟨b', b1, b2⟩ := h.blob 103 (by decide) ((rp_pk.fst (by decide) 103).2 (by decide +kernel))
 obtain ⟨c', c1, c2⟩ := h.blob 187 (by decide) ((rp_pk.fst (by decide) 187).2 (by decide +kernel))
 rw [nf_pk0] at b1; rw [nf_pk1] at c1
 obtain rfl : b = b' := by simpa using b1
 obtain rfl : c = c' := by simpa using c1
 rw [b2.eq blob_pk0, c2.eq blob_pk1]
 have e1 : elb pxk 20 ⟨3, 5, 14, 14, (cnt (DD pxk true) (RR 20 true pxk true) 103 480 : Int), 3, 5⟩ = some ⟨3, 5, 14, 14⟩ := by
  unfold elb; rw [if_pos ⟨by decide, by decide, ellP_pk⟩]
 have e2 : elb pxk 20 ⟨7, 9, 6, 6, (cnt (DD pxk true) (RR 20 true pxk true) 187 480 : Int), 7, 9⟩ = none := by
  unfold elb; rw [if_neg (fun h => absurd h.1 (by decide))]
 unfold els
 rw [List.filterMap_cons_some e1, List.filterMap_cons_none e2, List.filterMap_nil]
end Fi
end Go.Proofs.Ytbinlkobmlebpaa
