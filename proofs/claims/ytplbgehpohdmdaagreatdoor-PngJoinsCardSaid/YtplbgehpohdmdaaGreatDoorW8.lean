/- Texts of the claim, laid together: Pf20, Pf21, Pf22, Pf23. -/
import Derived.Test.YtplbgehpohdmdaaGreatDoorW0
import Derived.Test.YtplbgehpohdmdaaGreatDoorW7
set_option linter.unusedSimpArgs false
set_option linter.unusedVariables false
namespace Go.Proofs.YtplbgehpohdmdaaGreatDoor
open Go.RowKit Sym
def swp {α : Type} (A X B Y C : List α) (i : Nat) : List α := A ++ (Y.take i ++ X.drop i) ++ B ++ (X.take i ++ Y.drop i) ++ C
theorem swp_zero {α : Type} (A X B Y C : List α) : swp A X B Y C 0 = A ++ X ++ B ++ Y ++ C := by simp [swp]
theorem swp_end {α : Type} (A X B Y C : List α) (h : X.length = Y.length) : swp A X B Y C X.length = A ++ Y ++ B ++ X ++ C := by
 unfold swp
 rw [List.take_of_length_le (show Y.length ≤ X.length by omega), List.drop_of_length_le (Nat.le_refl _), List.take_of_length_le (Nat.le_refl _), List.drop_of_length_le (show Y.length ≤ X.length by omega)]; simp
theorem swp_len {α : Type} (A X B Y C : List α) (h : X.length = Y.length) {i : Nat} (hi : i ≤ X.length) : (swp A X B Y C i).length = A.length + X.length + B.length + Y.length + C.length := by unfold swp; simp; omega
theorem swp_form {α : Type} {A X B Y C : List α} (h : X.length = Y.length) {i : Nat} (hi : i < X.length) : swp A X B Y C i = (A ++ Y.take i) ++ X[i] :: ((X.drop (i + 1) ++ B ++ X.take i) ++ Y[i] :: (Y.drop (i + 1) ++ C)) := by
 unfold swp
 rw [List.drop_eq_getElem_cons hi, List.drop_eq_getElem_cons (show i < Y.length by omega)]
 simp only [List.append_assoc, List.cons_append]
theorem swp_next {α : Type} {A X B Y C : List α} (h : X.length = Y.length) {i : Nat} (hi : i < X.length) : swp A X B Y C (i + 1) = (A ++ Y.take i) ++ Y[i] :: ((X.drop (i + 1) ++ B ++ X.take i) ++ X[i] :: (Y.drop (i + 1) ++ C)) := by
 unfold swp
 rw [← List.take_append_getElem hi, ← List.take_append_getElem (show i < Y.length by omega)]
 simp only [List.append_assoc, List.cons_append, List.nil_append]
theorem two_x {α : Type} (P Q R : List α) (x y : α) {j : Nat} (e : j = P.length) (hj : j < (P ++ x :: (Q ++ y :: R)).length) : (P ++ x :: (Q ++ y :: R))[j] = x := by
 subst e; simp
theorem two_y {α : Type} (P Q R : List α) (x y : α) {j : Nat} (e : j = P.length + 1 + Q.length) (hj : j < (P ++ x :: (Q ++ y :: R)).length) : (P ++ x :: (Q ++ y :: R))[j] = y := by
 have : (P ++ x :: (Q ++ y :: R))[j]? = some y := by
  rw [List.getElem?_append_right (by omega), e, show P.length + 1 + Q.length - P.length = Q.length + 1 by omega, List.getElem?_cons_succ, List.getElem?_append_right (Nat.le_refl _), Nat.sub_self]; rfl
 rw [List.getElem?_eq_getElem hj, Option.some.injEq] at this; exact this
theorem two_set {α : Type} (P Q R : List α) (x y : α) {i j : Nat} (e : i = P.length) (e2 : j = P.length + 1 + Q.length) : ((P ++ x :: (Q ++ y :: R)).set i y).set j x = P ++ y :: (Q ++ x :: R) := by
 subst e e2
 rw [List.set_append_right _ _ (Nat.le_refl _), Nat.sub_self, List.set_cons_zero, List.set_append_right _ _ (by omega), show P.length + 1 + Q.length - P.length = Q.length + 1 by omega, List.set_cons_succ, List.set_append_right _ _ (Nat.le_refl _), Nat.sub_self]; rfl
theorem swp_x {α : Type} {A X B Y C : List α} (h : X.length = Y.length) {i j : Nat} (hi : i < X.length) (e : j = A.length + i) (hj : j < (swp A X B Y C i).length) : (swp A X B Y C i)[j] = X[i] := by
 have hf := swp_form (A := A) (B := B) (C := C) h hi
 have := two_x (A ++ Y.take i) (X.drop (i + 1) ++ B ++ X.take i) (Y.drop (i + 1) ++ C) X[i] Y[i] (j := j) (by simp; omega) (by rw [← hf]; exact hj)
 rw [← this]; congr 1
theorem swp_y {α : Type} {A X B Y C : List α} (h : X.length = Y.length) {i j : Nat} (hi : i < X.length) (e : j = A.length + X.length + B.length + i) (hj : j < (swp A X B Y C i).length) : (swp A X B Y C i)[j] = Y[i] := by
 have hf := swp_form (A := A) (B := B) (C := C) h hi
 have := two_y (A ++ Y.take i) (X.drop (i + 1) ++ B ++ X.take i) (Y.drop (i + 1) ++ C) X[i] Y[i] (j := j) (by simp; omega) (by rw [← hf]; exact hj)
 rw [← this]; congr 1
theorem swp_step {α : Type} {A X B Y C : List α} (h : X.length = Y.length) {i j k : Nat} (hi : i < X.length) (e : j = A.length + i) (e2 : k = A.length + X.length + B.length + i) : ((swp A X B Y C i).set j Y[i]).set k X[i] = swp A X B Y C (i + 1) := by
 rw [swp_form h hi, swp_next h hi]
 exact two_set _ _ _ _ _ (by simp; omega) (by simp; omega)
set_option maxHeartbeats 1000000 in
theorem swap_ret (p : Value) (la lx lb ly lc : List It) (a b n : Nat) (fv : Value) (P : List It) (w : World) (hs : Sep w [Rg.sl ip 161 p (la ++ lx ++ lb ++ ly ++ lc), Rg.pool P P]) (ha : a = la.length) (hb : b = la.length + lx.length + lb.length) (hn : n = lx.length) (hXY : lx.length = ly.length) (hlen : (la ++ lx ++ lb ++ ly ++ lc).length ≤ 1000000) :
  Ret Tryz.prog 177 #[p, i64 a, i64 b, i64 n, fv] w fun v w' => M w (fpU [Rg.sl ip 161 p (la ++ lx ++ lb ++ ly ++ lc), Rg.pool P P]) w' [Rg.sl ip 161 p (la ++ ly ++ lb ++ lx ++ lc), Rg.pool P P] := by
 have hM := M.startS hs
 refine enter Tryz.func177 rfl (by kernel_rfl) Tryz.ntmps177 rfl ?_
 refine C.seq <| C.region <| E.asg rfl rfl <| E.nil <| X.next <| C.block <| ?_
 subst ha hb hn
 simp only [List.length_append] at hlen
 rw [← swp_zero] at hM

 refine C.loop1 [(0, _), (1, _), (2, _), (3, _)] rfl (fun (i : Nat) => [(10, i64 i)]) (fun (i : Nat) w' => M w (fpU [Rg.sl ip 161 p (la ++ lx ++ lb ++ ly ++ lc), Rg.pool P P]) w' [Rg.sl ip 161 p (swp la lx lb ly lc i), Rg.pool P P] ∧ i ≤ lx.length) (fun (i : Nat) => lx.length - i) 0 ?_ ?_ ?_
 · exact Sub.cons rfl <| Sub.nil _
 · exact ⟨hM, Nat.zero_le _⟩
 rintro i w0 ⟨hM, hi⟩
 refine C.seq <| C.seq <| C.region <| E.mv rfl rfl <| E.mv rfl rfl <| E.bin rfl rfl rfl rfl <| E.nil <| X.next <| ?_
 refine C.cond' rfl (fun hC0 => ?_) (fun hC0 => ?_)
 ·
  have hi' : i < lx.length := by omega
  refine C.skip <| X.next <| C.seq <| C.block <| C.heldM hM [] (by decide) (by kernel_rfl) fun wh1 hM hS => ?_
  have hR := hM.sl 0 rfl
  refine H.take 0 rfl rfl (by kernel_rfl) (by kernel_rfl) (by kernel_rfl) hS (fun w' hM => Y.mv rfl) rfl ?_
  refine H.take 1 rfl rfl (by kernel_rfl) (by kernel_rfl) (by kernel_rfl) hS (fun w' hM => Y.mv rfl) rfl ?_
  refine H.take 2 rfl rfl (by kernel_rfl) (by kernel_rfl) (by kernel_rfl) hS (fun w' hM => Y.mv rfl) rfl ?_
  refine H.take 3 rfl rfl (by kernel_rfl) (by kernel_rfl) (by kernel_rfl) hS (fun w' hM => Y.addN rfl rfl (by omega)) rfl ?_
  refine H.take 4 rfl rfl (by kernel_rfl) (by kernel_rfl) (by kernel_rfl) hS (fun w' hM => Y.mv rfl) rfl ?_
  refine H.take 5 rfl rfl (by kernel_rfl) (by kernel_rfl) (by kernel_rfl) hS (fun w' hM => Y.mv rfl) rfl ?_
  refine H.take 6 rfl rfl (by kernel_rfl) (by kernel_rfl) (by kernel_rfl) hS (fun w' hM => Y.mv rfl) rfl ?_
  refine H.take 7 rfl rfl (by kernel_rfl) (by kernel_rfl) (by kernel_rfl) hS (fun w' hM => Y.addN rfl rfl (by omega)) rfl ?_
  refine H.take 8 rfl rfl (by kernel_rfl) (by kernel_rfl) (by kernel_rfl) hS (fun w' hM => Y.mv rfl) rfl ?_
  refine H.take 9 rfl rfl (by kernel_rfl) (by kernel_rfl) (by kernel_rfl) hS (fun w' hM => Y.mv rfl) rfl ?_
  refine H.take 10 rfl rfl (by kernel_rfl) (by kernel_rfl) (by kernel_rfl) hS (fun w' hM => Y.mv rfl) rfl ?_
  refine H.take 11 rfl rfl (by kernel_rfl) (by kernel_rfl) (by kernel_rfl) hS (fun w' hM => Y.addN rfl rfl (by omega)) rfl ?_
  refine H.takeV 12 rfl rfl (by kernel_rfl) (by kernel_rfl) (by kernel_rfl) hS (Y.idxW _ ((la.length + lx.length + lb.length + i)) rfl rfl hR rfl (by rw [swp_len la lx lb ly lc hXY (by omega)]; omega) Tryz.underlying159 (by kernel_rfl)) (fun w' hM => Y.idxW _ ((la.length + lx.length + lb.length + i)) rfl rfl hR rfl (by rw [swp_len la lx lb ly lc hXY (by omega)]; omega) Tryz.underlying159 (by kernel_rfl)) rfl ?_
  refine H.take 14 rfl rfl (by kernel_rfl) (by kernel_rfl) (by kernel_rfl) hS (fun w' hM => Y.mv rfl) rfl ?_
  refine H.take 15 rfl rfl (by kernel_rfl) (by kernel_rfl) (by kernel_rfl) hS (fun w' hM => Y.mv rfl) rfl ?_
  refine H.take 16 rfl rfl (by kernel_rfl) (by kernel_rfl) (by kernel_rfl) hS (fun w' hM => Y.mv rfl) rfl ?_
  refine H.take 17 rfl rfl (by kernel_rfl) (by kernel_rfl) (by kernel_rfl) hS (fun w' hM => Y.addN rfl rfl (by omega)) rfl ?_
  refine H.takeV 18 rfl rfl (by kernel_rfl) (by kernel_rfl) (by kernel_rfl) hS (Y.idxW _ ((la.length + i)) rfl rfl hR rfl (by rw [swp_len la lx lb ly lc hXY (by omega)]; omega) Tryz.underlying159 (by kernel_rfl)) (fun w' hM => Y.idxW _ ((la.length + i)) rfl rfl hR rfl (by rw [swp_len la lx lb ly lc hXY (by omega)]; omega) Tryz.underlying159 (by kernel_rfl)) rfl ?_
  refine H.two 13 19 rfl rfl (by kernel_rfl) ?_ ?_
  ·
   refine E.load rfl Tryz.underlying161 rfl ((hM.sl 0 rfl).cell (by rw [swp_len la lx lb ly lc hXY (by omega)]; omega)) rfl ?_
   rw [swp_y hXY hi' rfl]
   have hS := hM.pick [] (by decide)
   refine H.back hS ?_
   refine H.only 19 rfl (by kernel_rfl) ?_
   refine E.load rfl Tryz.underlying161 rfl ((hM.sl 0 rfl).cell (by rw [swp_len la lx lb ly lc hXY (by omega)]; omega)) rfl ?_
   rw [swp_x hXY hi' rfl]
   have hS := hM.pick [] (by decide)
   refine H.back hS ?_
   refine H.takeV 20 rfl rfl (by kernel_rfl) (by kernel_rfl) (by kernel_rfl) hS (Y.idxW _ ((la.length + i)) rfl rfl hR rfl (by rw [swp_len la lx lb ly lc hXY (by omega)]; omega) Tryz.underlying159 (by kernel_rfl)) (fun w' hM => Y.idxW _ ((la.length + i)) rfl rfl hR rfl (by rw [swp_len la lx lb ly lc hXY (by omega)]; omega) Tryz.underlying159 (by kernel_rfl)) rfl ?_
   refine H.only 21 rfl (by kernel_rfl) ?_
   refine E.storeL (j := (la.length + i)) 0 ly[i] hM rfl rfl rfl (by kernel_rfl) rfl rfl (by rw [swp_len la lx lb ly lc hXY (by omega)]; omega) ?_
   intro w2 hM
   try dsimp only [Za, Zb, Zc, Zd, repl] at hM
   have hS := hM.pick [] (by decide)
   refine H.back hS ?_
   refine H.takeV 22 rfl rfl (by kernel_rfl) (by kernel_rfl) (by kernel_rfl) hS (Y.idxW _ ((la.length + lx.length + lb.length + i)) rfl rfl hR rfl (by rw [swp_len la lx lb ly lc hXY (by omega)]; omega) Tryz.underlying159 (by kernel_rfl)) (fun w' hM => Y.idxW _ ((la.length + lx.length + lb.length + i)) rfl rfl hR rfl (by rw [swp_len la lx lb ly lc hXY (by omega)]; omega) Tryz.underlying159 (by kernel_rfl)) rfl ?_
   refine H.only 23 rfl (by kernel_rfl) ?_
   refine E.storeL (j := (la.length + lx.length + lb.length + i)) 0 lx[i] hM rfl rfl rfl (by kernel_rfl) rfl rfl (by rw [List.length_set]; rw [swp_len la lx lb ly lc hXY (by omega)]; omega) ?_
   intro w3 hM
   try dsimp only [Za, Zb, Zc, Zd, repl] at hM
   rw [swp_step hXY hi' rfl rfl] at hM
   have hS := hM.pick [] (by decide)
   refine H.back hS ?_
   refine H.done (by kernel_rfl) ?_
   refine X.outN <| X.next <| C.region <| E.mv rfl rfl <| ?_
   refine E.addN (b := 1) rfl rfl (by omega) rfl ?_

   refine E.asg rfl rfl <| E.nil <| X.again1 (i + 1) (Sub.cons rfl <| Sub.nil _) rfl ⟨hM, by omega⟩ (by omega)
  ·
   refine E.load rfl Tryz.underlying161 rfl ((hM.sl 0 rfl).cell (by rw [swp_len la lx lb ly lc hXY (by omega)]; omega)) rfl ?_
   rw [swp_x hXY hi' rfl]
   have hS := hM.pick [] (by decide)
   refine H.back hS ?_
   refine H.only 13 rfl (by kernel_rfl) ?_
   refine E.load rfl Tryz.underlying161 rfl ((hM.sl 0 rfl).cell (by rw [swp_len la lx lb ly lc hXY (by omega)]; omega)) rfl ?_
   rw [swp_y hXY hi' rfl]
   have hS := hM.pick [] (by decide)
   refine H.back hS ?_
   refine H.takeV 20 rfl rfl (by kernel_rfl) (by kernel_rfl) (by kernel_rfl) hS (Y.idxW _ ((la.length + i)) rfl rfl hR rfl (by rw [swp_len la lx lb ly lc hXY (by omega)]; omega) Tryz.underlying159 (by kernel_rfl)) (fun w' hM => Y.idxW _ ((la.length + i)) rfl rfl hR rfl (by rw [swp_len la lx lb ly lc hXY (by omega)]; omega) Tryz.underlying159 (by kernel_rfl)) rfl ?_
   refine H.only 21 rfl (by kernel_rfl) ?_
   refine E.storeL (j := (la.length + i)) 0 ly[i] hM rfl rfl rfl (by kernel_rfl) rfl rfl (by rw [swp_len la lx lb ly lc hXY (by omega)]; omega) ?_
   intro w4 hM
   try dsimp only [Za, Zb, Zc, Zd, repl] at hM
   have hS := hM.pick [] (by decide)
   refine H.back hS ?_
   refine H.takeV 22 rfl rfl (by kernel_rfl) (by kernel_rfl) (by kernel_rfl) hS (Y.idxW _ ((la.length + lx.length + lb.length + i)) rfl rfl hR rfl (by rw [swp_len la lx lb ly lc hXY (by omega)]; omega) Tryz.underlying159 (by kernel_rfl)) (fun w' hM => Y.idxW _ ((la.length + lx.length + lb.length + i)) rfl rfl hR rfl (by rw [swp_len la lx lb ly lc hXY (by omega)]; omega) Tryz.underlying159 (by kernel_rfl)) rfl ?_
   refine H.only 23 rfl (by kernel_rfl) ?_
   refine E.storeL (j := (la.length + lx.length + lb.length + i)) 0 lx[i] hM rfl rfl rfl (by kernel_rfl) rfl rfl (by rw [List.length_set]; rw [swp_len la lx lb ly lc hXY (by omega)]; omega) ?_
   intro w5 hM
   try dsimp only [Za, Zb, Zc, Zd, repl] at hM
   rw [swp_step hXY hi' rfl rfl] at hM
   have hS := hM.pick [] (by decide)
   refine H.back hS ?_
   refine H.done (by kernel_rfl) ?_
   refine X.outN <| X.next <| C.region <| E.mv rfl rfl <| ?_
   refine E.addN (b := 1) rfl rfl (by omega) rfl ?_

   refine E.asg rfl rfl <| E.nil <| X.again1 (i + 1) (Sub.cons rfl <| Sub.nil _) rfl ⟨hM, by omega⟩ (by omega)
 ·
  obtain rfl : i = lx.length := by omega
  rw [swp_end la lx lb ly lc hXY] at hM
  refine C.exit <| X.exitT <| X.exitT <| X.outE <| end0 rfl ?_
  exact hM
end Go.Proofs.YtplbgehpohdmdaaGreatDoor
namespace Go.Proofs.YtplbgehpohdmdaaGreatDoor
open Go.RowKit Sym
theorem rot_u {α : Type} (qa qu qv qc : List α) (j : Nat) : qa ++ qu ++ qv ++ qc = qa ++ qu.take j ++ qu.drop j ++ qv ++ qc := by rw [List.append_assoc qa (qu.take j), List.take_append_drop]
theorem rot_v {α : Type} (qa qu qv qc : List α) (j : Nat) : qa ++ qu ++ qv ++ qc = qa ++ qu ++ qv.take j ++ qv.drop j ++ qc := by rw [List.append_assoc (qa ++ qu) (qv.take j), List.take_append_drop]
set_option maxHeartbeats 1000000 in
theorem rotate_ret (p : Value) (la lu lv lc : List It) (a m b : Nat) (fv : Value) (P : List It) (w : World) (hs : Sep w [Rg.sl ip 161 p (la ++ lu ++ lv ++ lc), Rg.pool P P]) (ha : a = la.length) (hm : m = la.length + lu.length) (hb : b = m + lv.length) (hu : 0 < lu.length) (hv : 0 < lv.length) (hlen : (la ++ lu ++ lv ++ lc).length ≤ 1000000) :
  Ret Tryz.prog 174 #[p, i64 a, i64 m, i64 b, fv] w fun v w' => M w (fpU [Rg.sl ip 161 p (la ++ lu ++ lv ++ lc), Rg.pool P P]) w' [Rg.sl ip 161 p (la ++ lv ++ lu ++ lc), Rg.pool P P] := by
 have hM := M.startS hs
 refine enter Tryz.func174 rfl (by kernel_rfl) Tryz.ntmps174 rfl ?_
 refine C.seq <| C.region <| E.mv rfl rfl <| E.mv rfl rfl <| ?_
 simp only [List.length_append] at hlen
 refine E.subN rfl rfl (by omega) rfl ?_
 refine E.asg rfl rfl <| E.nil <| X.next <| C.seq <| C.region <| E.mv rfl rfl <| E.mv rfl rfl <| ?_
 refine E.subN rfl rfl (by omega) rfl ?_
 refine E.asg rfl rfl <| E.nil <| X.next <| C.seq <| C.block <| ?_

 refine C.loop4 [(0, _), (2, _), (4, _)] rfl (fun (qa : (List It)) (qu : (List It)) (qv : (List It)) (qc : (List It)) => [(10, i64 (qu.length : Int)), (11, i64 (qv.length : Int))]) (fun (qa : (List It)) (qu : (List It)) (qv : (List It)) (qc : (List It)) w' => M w (fpU [Rg.sl ip 161 p (la ++ lu ++ lv ++ lc), Rg.pool P P]) w' [Rg.sl ip 161 p (qa ++ qu ++ qv ++ qc), Rg.pool P P] ∧ qa.length + qu.length = m ∧ 0 < qu.length ∧ 0 < qv.length ∧ qa ++ qv ++ qu ++ qc = la ++ lv ++ lu ++ lc) (fun (qa : (List It)) (qu : (List It)) (qv : (List It)) (qc : (List It)) => qu.length + qv.length) la lu lv lc ?_ ?_ ?_
 · exact Sub.cons (look_val rfl (by omega)) <| Sub.cons (look_val rfl (by omega)) <| Sub.nil _
 · exact ⟨hM, hm.symm, hu, hv, rfl⟩
 rintro qa qu qv qc w0 ⟨hM, hq, hu0, hv0, he⟩
 refine C.seq <| C.seq <| C.region <| E.mv rfl rfl <| E.mv rfl rfl <| E.bin rfl rfl rfl rfl <| E.nil <| X.next <| ?_
 refine C.cond' rfl (fun hC0 => ?_) (fun hC0 => ?_)
 ·
  have hql : qa.length + qv.length + qu.length + qc.length = la.length + lv.length + lu.length + lc.length := by
   have := congrArg List.length he
   simpa only [List.length_append] using this
  refine C.skip <| X.next <| C.block <| C.seq <| C.region <| E.mv rfl rfl <| E.mv rfl rfl <| E.bin rfl rfl rfl rfl <| E.nil <| X.next <| ?_
  refine C.cond' rfl (fun hC1 => ?_) (fun hC1 => ?_)
  ·
   have hul : (qu.take qv.length).length = qv.length := by rw [List.length_take]; omega
   have hdl : (qu.drop qv.length).length = qu.length - qv.length := by simp
   rw [rot_u qa qu qv qc qv.length] at hM
   refine C.seq <| C.region <| E.mv rfl rfl <| E.mv rfl rfl <| E.mv rfl rfl <| ?_
   refine E.subN rfl rfl (by omega) rfl ?_
   refine E.mv rfl rfl <| E.mv rfl rfl <| E.mv rfl rfl <| ?_
   refine E.call rfl rfl (swap_ret p qa (qu.take qv.length) (qu.drop qv.length) qv qc _ _ _ fv P _ (hM.pick [0, 1] (by decide)).sep (by omega) (by omega) (by omega) (by omega) (by simp only [List.length_append]; omega)) ?_
   rintro _ w2 m2
   have hM := hM.calls [0, 1] (by decide) rfl (by simp) m2
   try dsimp only [Za, Zb, Zc, Zd, repl] at hM
   refine E.nil <| X.next <| C.region <| E.mv rfl rfl <| E.mv rfl rfl <| ?_
   refine E.subN rfl rfl (by omega) rfl ?_

   refine E.asg rfl rfl <| E.nil <| X.outN <| X.again4 (qa ++ qv) (qu.drop qv.length) (qu.take qv.length) qc (Sub.cons (look_val rfl (by omega)) <| Sub.cons (look_val rfl (by omega)) <| Sub.nil _) rfl ⟨hM, by rw [List.length_append]; omega, by omega, by omega, by rw [← he, List.append_assoc (qa ++ qv), List.take_append_drop]⟩ (by omega)
  ·
   have hul : (qv.take (qv.length - qu.length)).length = qv.length - qu.length := by rw [List.length_take]; omega
   have hdl : (qv.drop (qv.length - qu.length)).length = qu.length := by simp; omega
   rw [rot_v qa qu qv qc (qv.length - qu.length)] at hM
   refine C.seq <| C.region <| E.mv rfl rfl <| E.mv rfl rfl <| E.mv rfl rfl <| ?_
   refine E.subN rfl rfl (by omega) rfl ?_
   refine E.mv rfl rfl <| E.mv rfl rfl <| ?_
   refine E.addN rfl rfl (by omega) rfl ?_
   refine E.mv rfl rfl <| ?_
   refine E.subN rfl rfl (by omega) rfl ?_
   refine E.mv rfl rfl <| E.mv rfl rfl <| ?_
   refine E.call rfl rfl (swap_ret p qa qu (qv.take (qv.length - qu.length)) (qv.drop (qv.length - qu.length)) qc _ _ _ fv P _ (hM.pick [0, 1] (by decide)).sep (by omega) (by omega) (by omega) (by omega) (by simp only [List.length_append]; omega)) ?_
   rintro _ w3 m3
   have hM := hM.calls [0, 1] (by decide) rfl (by simp) m3
   try dsimp only [Za, Zb, Zc, Zd, repl] at hM
   refine E.nil <| X.next <| C.region <| E.mv rfl rfl <| E.mv rfl rfl <| ?_
   refine E.subN rfl rfl (by omega) rfl ?_

   refine E.asg rfl rfl <| E.nil <| X.outN <| X.again4 qa (qv.drop (qv.length - qu.length)) (qv.take (qv.length - qu.length)) (qu ++ qc) (Sub.cons (look_val rfl (by omega)) <| Sub.cons (look_val rfl (by omega)) <| Sub.nil _) rfl ⟨hM.to (Sym.two (by rw [← List.append_assoc]) rfl), by omega, by omega, by omega, by rw [← he, List.append_assoc qa, List.take_append_drop, ← List.append_assoc]⟩ (by omega)
 ·
  have hql : qa.length + qv.length + qu.length + qc.length = la.length + lv.length + lu.length + lc.length := by
   have := congrArg List.length he
   simpa only [List.length_append] using this
  have hM := hM.to (Sym.two (show _ = Rg.sl ip 161 p (qa ++ qu ++ [] ++ qv ++ qc) by rw [List.append_nil]) rfl)
  refine C.exit <| X.exitT <| X.exitT <| X.outE <| X.next <| C.region <| E.mv rfl rfl <| E.mv rfl rfl <| E.mv rfl rfl <| ?_
  refine E.subN rfl rfl (by omega) rfl ?_
  refine E.mv rfl rfl <| E.mv rfl rfl <| E.mv rfl rfl <| ?_
  refine E.call rfl rfl (swap_ret p qa qu [] qv qc _ _ _ fv P _ (hM.pick [0, 1] (by decide)).sep (by omega) (by simp; omega) (by omega) (by omega) (by simp only [List.length_append, List.length_nil]; omega)) ?_
  rintro _ w4 m4
  have hM := hM.calls [0, 1] (by decide) rfl (by simp) m4
  try dsimp only [Za, Zb, Zc, Zd, repl] at hM
  refine E.nil <| end0 rfl ?_
  exact hM.to (Sym.two (by rw [← he, List.append_nil]) rfl)
end Go.Proofs.YtplbgehpohdmdaaGreatDoor
namespace Go.Proofs.YtplbgehpohdmdaaGreatDoor
open Go.RowKit Sym
theorem srt_take {α : Type} {g : α → Nat} {l : List α} {u : Nat} (h : Srt g l) (hu : u ≤ l.length) {w : Nat} (hw : u = 0 ∨ (l.map g).getD (u - 1) 0 ≤ w) : ∀ z ∈ l.take u, g z ≤ w := by
  intro z hz
  obtain ⟨k, hk, rfl⟩ := List.getElem_of_mem hz
  rw [List.length_take] at hk
  have hu' : u - 1 < l.length := by omega
  have hg : (l.map g).getD (u - 1) 0 = g l[u - 1] := by rw [List.getD_eq_getElem?_getD, List.getElem?_map, List.getElem?_eq_getElem hu']; rfl
  rw [List.getElem_take]
  rcases hw with hw | hw
  · omega
  · rw [hg] at hw
    by_cases e : k = u - 1
    · subst e; exact hw
    · have := List.pairwise_iff_getElem.1 h k (u - 1) (by omega) hu' (by omega)
      omega
theorem srt_drop {α : Type} {g : α → Nat} {l : List α} {u : Nat} (h : Srt g l) {w : Nat} (hw : u = l.length ∨ w ≤ (l.map g).getD u 0) : ∀ z ∈ l.drop u, w ≤ g z := by
  intro z hz
  obtain ⟨k, hk, rfl⟩ := List.getElem_of_mem hz
  rw [List.length_drop] at hk
  have hu' : u < l.length := by omega
  have hg : (l.map g).getD u 0 = g l[u] := by rw [List.getD_eq_getElem?_getD, List.getElem?_map, List.getElem?_eq_getElem hu']; rfl
  rw [List.getElem_drop]
  rcases hw with hw | hw
  · omega
  · rw [hg] at hw
    by_cases e : k = 0
    · subst e; exact hw
    · have := List.pairwise_iff_getElem.1 h u (u + k) hu' (by omega) (by omega)
      omega
theorem mrg_one {α : Type} {g : α → Nat} {x : α} {l : List α} {u : Nat} (h : Srt g l) (hu : u ≤ l.length) (h1 : u = 0 ∨ (l.map g).getD (u - 1) 0 < g x) (h2 : u = l.length ∨ g x ≤ (l.map g).getD u 0) : mrg g [x] l = l.take u ++ x :: l.drop u := by
  have a1 : ∀ z ∈ l.take u, g z < g x := fun z hz => by
    rcases Nat.eq_zero_or_pos (g x) with e | e
    · have : u = 0 := by omega
      subst this; simp at hz
    · have := srt_take h hu (w := g x - 1) (by omega) z hz; omega
  have a2 := srt_drop h h2
  have e1 := mrg_split (g := g) [] (l.take u) [x] (l.drop u) (fun y hy => by cases hy) (fun y hy z hz => by rw [List.mem_singleton] at hz; subst hz; exact a1 y hy)
  have e2 := mrg_split (g := g) [x] [] [] (l.drop u) (fun y hy z hz => by rw [List.mem_singleton] at hy; subst hy; exact a2 z hz) (fun y hy => by cases hy)
  rw [List.take_append_drop, List.nil_append, mrg] at e1
  rw [List.append_nil, List.nil_append, mrg_nil, mrg] at e2
  rw [e1, e2]; rfl
theorem mrg_two {α : Type} {g : α → Nat} {y : α} {l : List α} {u : Nat} (h : Srt g l) (hu : u ≤ l.length) (h1 : u = 0 ∨ (l.map g).getD (u - 1) 0 ≤ g y) (h2 : u = l.length ∨ g y < (l.map g).getD u 0) : mrg g l [y] = l.take u ++ y :: l.drop u := by
 have a1 := srt_take h hu h1
 have a2 := srt_drop (u := u) h (w := g y + 1) (by omega)
 have e1 := mrg_split (g := g) (l.take u) [] (l.drop u) [y] (fun x hx z hz => by rw [List.mem_singleton] at hz; subst hz; exact a1 x hx) (fun x hx => by cases hx)
 have e2 := mrg_split (g := g) [] [y] (l.drop u) [] (fun x hx => by cases hx) (fun z hz x hx => by rw [List.mem_singleton] at hz; subst hz; have := a2 x hx; omega)
 rw [List.take_append_drop, List.nil_append, mrg_nil] at e1
 rw [List.append_nil, List.nil_append, mrg_nil, mrg] at e2
 rw [e1, e2]; rfl
end Go.Proofs.YtplbgehpohdmdaaGreatDoor
namespace Go.Proofs.YtplbgehpohdmdaaGreatDoor
open Go.RowKit Sym
theorem shr_u64 (c : Nat) : (c : Int) / 2 ^ min ((1 : Int)).toNat IntKind.u64.bits = ((c / 2 : Nat) : Int) := by
 have e1 : min ((1 : Int)).toNat IntKind.u64.bits = 1 := by decide
 rw [e1]; simp
def W (D : List It) (k : Nat) : Nat := (D.map wi).getD k 0
theorem W_eq {D : List It} {k : Nat} (h : k < D.length) : W D k = wi D[k] := wget h
theorem W_x {la lx ly lc : List It} {k : Nat} (h : k < lx.length) : W (la ++ lx ++ ly ++ lc) (la.length + k) = (lx.map wi).getD k 0 := by
 unfold W
 rw [List.getD_eq_getElem?_getD, List.getD_eq_getElem?_getD, List.getElem?_map, List.getElem?_map, List.append_assoc, List.append_assoc, List.getElem?_append_right (by omega), Nat.add_sub_cancel_left, List.getElem?_append_left h]
theorem W_y {la lx ly lc : List It} {k : Nat} (h : k < ly.length) : W (la ++ lx ++ ly ++ lc) (la.length + lx.length + k) = (ly.map wi).getD k 0 := by
 unfold W
 rw [List.getD_eq_getElem?_getD, List.getD_eq_getElem?_getD, List.getElem?_map, List.getElem?_map, List.append_assoc, List.getElem?_append_right (by simp), List.length_append, Nat.add_sub_cancel_left, List.getElem?_append_left h]
theorem D_len {la lx ly lc : List It} : (la ++ lx ++ ly ++ lc).length = la.length + lx.length + ly.length + lc.length := by simp only [List.length_append]
theorem sym_cut {lx ly : List It} {s t : Nat} (hx : Srt wi lx) (hy : Srt wi ly) (hs : s ≤ lx.length) (ht : t ≤ ly.length)
    (h1 : s = 0 ∨ t = ly.length ∨ (lx.map wi).getD (s - 1) 0 ≤ (ly.map wi).getD t 0) (h2 : t = 0 ∨ s = lx.length ∨ (ly.map wi).getD (t - 1) 0 < (lx.map wi).getD s 0) :
    mrg wi lx ly = mrg wi (lx.take s) (ly.take t) ++ mrg wi (lx.drop s) (ly.drop t) := by
  have := mrg_split (g := wi) (lx.take s) (ly.take t) (lx.drop s) (ly.drop t) (fun x h y h' => by
    rcases h1 with h1 | h1 | h1
    · subst h1; simp at h
    · subst h1; simp at h'
    · have a := srt_take hx hs (.inr h1) x h
      have b := srt_drop hy (u := t) (w := (ly.map wi).getD t 0) (.inr (Nat.le_refl _)) y h'
      omega) (fun y h x h' => by
    rcases h2 with h2 | h2 | h2
    · subst h2; simp at h
    · subst h2; simp at h'
    · have a := srt_take hy ht (w := (ly.map wi).getD (t - 1) 0) (.inr (Nat.le_refl _)) y h
      have b := srt_drop hx (u := s) (w := (lx.map wi).getD s 0) (.inr (Nat.le_refl _)) x h'
      omega)
  rw [List.take_append_drop, List.take_append_drop] at this; exact this
end Go.Proofs.YtplbgehpohdmdaaGreatDoor
