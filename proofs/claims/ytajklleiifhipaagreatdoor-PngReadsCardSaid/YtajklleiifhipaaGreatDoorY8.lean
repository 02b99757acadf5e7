/- Texts of the claim, laid together: Pf20, Pf21, Pf22, Pf23, Pf24. -/
import Derived.Test.YtajklleiifhipaaGreatDoorY0
import Derived.Test.YtajklleiifhipaaGreatDoorY3
import Derived.Test.YtajklleiifhipaaGreatDoorY5
import Derived.Test.YtajklleiifhipaaGreatDoorY7
set_option linter.unusedSimpArgs false
set_option linter.unusedVariables false
namespace Go.Proofs.YtajklleiifhipaaGreatDoor
open Go.RowKit Sym
def swp {α : Type} (A X B Y C : List α) (i : Nat) : List α := A ++ (Y.take i ++ X.drop i) ++ B ++ (X.take i ++ Y.drop i) ++ C
theorem swp_zero {α : Type} (A X B Y C : List α) : swp A X B Y C 0 = A ++ X ++ B ++ Y ++ C := by simp [swp]
theorem swp_end {α : Type} (A X B Y C : List α) (h : X.length = Y.length) : swp A X B Y C X.length = A ++ Y ++ B ++ X ++ C := by
 unfold swp
 rw [List.take_of_length_le (show Y.length ≤ X.length by omega), List.drop_of_length_le (Nat.le_refl _), List.take_of_length_le (Nat.le_refl _), List.drop_of_length_le (show Y.length ≤ X.length by omega)]; simp
theorem swp_len {α : Type} (A X B Y C : List α) (h : X.length = Y.length) {i : Nat} (hi : i ≤ X.length) : (swp A X B Y C i).length = A.length + X.length + B.length + Y.length + C.length := by unfold swp; simp; omega
theorem swp_form {α : Type} {A X B Y C : List α} (h : X.length = Y.length) {i : Nat} (hi : i < X.length) : swp A X B Y C i = (A ++ Y.take i) ++ X[i] :: ((X.drop (i + 1) ++ B ++ X.take i) ++ Y[i] :: (Y.drop (i + 1) ++ C)) := by
 unfold swp
 rw [List.drop_eq_getElem_cons hi, List.drop_eq_getElem_cons (show i < Y.length by omega)]
 simp only [List.append_assoc, List.cons_append]
theorem swp_next {α : Type} {A X B Y C : List α} (h : X.length = Y.length) {i : Nat} (hi : i < X.length) : swp A X B Y C (i + 1) = (A ++ Y.take i) ++ Y[i] :: ((X.drop (i + 1) ++ B ++ X.take i) ++ X[i] :: (Y.drop (i + 1) ++ C)) := by
 unfold swp
 rw [← List.take_append_getElem hi, ← List.take_append_getElem (show i < Y.length by omega)]
 simp only [List.append_assoc, List.cons_append, List.nil_append]
theorem two_x {α : Type} (P Q R : List α) (x y : α) {j : Nat} (e : j = P.length) (hj : j < (P ++ x :: (Q ++ y :: R)).length) : (P ++ x :: (Q ++ y :: R))[j] = x := by
 subst e; simp
theorem two_y {α : Type} (P Q R : List α) (x y : α) {j : Nat} (e : j = P.length + 1 + Q.length) (hj : j < (P ++ x :: (Q ++ y :: R)).length) : (P ++ x :: (Q ++ y :: R))[j] = y := by
 have : (P ++ x :: (Q ++ y :: R))[j]? = some y := by
  rw [List.getElem?_append_right (by omega), e, show P.length + 1 + Q.length - P.length = Q.length + 1 by omega, List.getElem?_cons_succ, List.getElem?_append_right (Nat.le_refl _), Nat.sub_self]; rfl
 rw [List.getElem?_eq_getElem hj, Option.some.injEq] at this; exact this
theorem two_set {α : Type} (P Q R : List α) (x y : α) {i j : Nat} (e : i = P.length) (e2 : j = P.length + 1 + Q.length) : ((P ++ x :: (Q ++ y :: R)).set i y).set j x = P ++ y :: (Q ++ x :: R) := by
 subst e e2
 rw [List.set_append_right _ _ (Nat.le_refl _), Nat.sub_self, List.set_cons_zero, List.set_append_right _ _ (by omega), show P.length + 1 + Q.length - P.length = Q.length + 1 by omega, List.set_cons_succ, List.set_append_right _ _ (Nat.le_refl _), Nat.sub_self]; rfl
theorem swp_x {α : Type} {A X B Y C : List α} (h : X.length = Y.length) {i j : Nat} (hi : i < X.length) (e : j = A.length + i) (hj : j < (swp A X B Y C i).length) : (swp A X B Y C i)[j] = X[i] := by
 have hf := swp_form (A := A) (B := B) (C := C) h hi
 have := two_x (A ++ Y.take i) (X.drop (i + 1) ++ B ++ X.take i) (Y.drop (i + 1) ++ C) X[i] Y[i] (j := j) (by simp; omega) (by rw [← hf]; exact hj)
 rw [← this]; congr 1
theorem swp_y {α : Type} {A X B Y C : List α} (h : X.length = Y.length) {i j : Nat} (hi : i < X.length) (e : j = A.length + X.length + B.length + i) (hj : j < (swp A X B Y C i).length) : (swp A X B Y C i)[j] = Y[i] := by
 have hf := swp_form (A := A) (B := B) (C := C) h hi
 have := two_y (A ++ Y.take i) (X.drop (i + 1) ++ B ++ X.take i) (Y.drop (i + 1) ++ C) X[i] Y[i] (j := j) (by simp; omega) (by rw [← hf]; exact hj)
 rw [← this]; congr 1
theorem swp_step {α : Type} {A X B Y C : List α} (h : X.length = Y.length) {i j k : Nat} (hi : i < X.length) (e : j = A.length + i) (e2 : k = A.length + X.length + B.length + i) : ((swp A X B Y C i).set j Y[i]).set k X[i] = swp A X B Y C (i + 1) := by
 rw [swp_form h hi, swp_next h hi]
 exact two_set _ _ _ _ _ (by simp; omega) (by simp; omega)
set_option maxHeartbeats 1000000 in
theorem swap_ret (p : Value) (la lx lb ly lc : List It) (a b n : Nat) (fv : Value) (P : List It) (w : World) (hs : Sep w [Rg.sl ip 155 p (la ++ lx ++ lb ++ ly ++ lc), Rg.pool P P]) (ha : a = la.length) (hb : b = la.length + lx.length + lb.length) (hn : n = lx.length) (hXY : lx.length = ly.length) (hlen : (la ++ lx ++ lb ++ ly ++ lc).length ≤ 1000000) :
  Ret Tryz.prog 168 #[p, i64 a, i64 b, i64 n, fv] w fun v w' => M w (fpU [Rg.sl ip 155 p (la ++ lx ++ lb ++ ly ++ lc), Rg.pool P P]) w' [Rg.sl ip 155 p (la ++ ly ++ lb ++ lx ++ lc), Rg.pool P P] := by
 have hM := M.startS hs
 refine enter Tryz.func168 rfl (by kernel_rfl) Tryz.ntmps168 rfl $ Kb $ Kc rfl $ C.block $ ?_
 subst ha hb hn
 simp only [List.length_append] at hlen
 rw [← swp_zero] at hM
 refine C.loop1 [(0, _), (1, _), (2, _), (3, _)] rfl (fun (i : Nat) => [(10, i64 i)]) (fun (i : Nat) w' => M w (fpU [Rg.sl ip 155 p (la ++ lx ++ lb ++ ly ++ lc), Rg.pool P P]) w' [Rg.sl ip 155 p (swp la lx lb ly lc i), Rg.pool P P] ∧ i ≤ lx.length) (fun (i : Nat) => lx.length - i) 0 ?_ ?_ ?_
 · exact S1 rfl
 · exact ⟨hM, Nat.zero_le _⟩
 rintro i w0 ⟨hM, hi⟩
 refine C.seq $ Kb $ Kf rfl $ Kp rfl $ Ka $ C.cond' rfl (fun hC0 => ?_) (fun hC0 => ?_)
 ·
  have hi' : i < lx.length := by omega
  refine Kk $ C.seq $ C.block $ C.heldM hM [] (by decide) (by kernel_rfl) fun wh1 hM hS => ?_
  have hR := hM.sl 0 rfl
  refine Kt 0 rfl (by kernel_rfl) hS (fun w' hM => Y.mv rfl) rfl $ Kt 1 rfl (by kernel_rfl) hS (fun w' hM => Y.mv rfl) rfl $ Kt 2 rfl (by kernel_rfl) hS (fun w' hM => Y.mv rfl) rfl $ Kt 3 rfl (by kernel_rfl) hS (fun w' hM => Y.addN rfl rfl (by omega)) rfl $ Kt 4 rfl (by kernel_rfl) hS (fun w' hM => Y.mv rfl) rfl $ Kt 5 rfl (by kernel_rfl) hS (fun w' hM => Y.mv rfl) rfl $ Kt 6 rfl (by kernel_rfl) hS (fun w' hM => Y.mv rfl) rfl $ Kt 7 rfl (by kernel_rfl) hS (fun w' hM => Y.addN rfl rfl (by omega)) rfl $ Kt 8 rfl (by kernel_rfl) hS (fun w' hM => Y.mv rfl) rfl $ Kt 9 rfl (by kernel_rfl) hS (fun w' hM => Y.mv rfl) rfl $ Kt 10 rfl (by kernel_rfl) hS (fun w' hM => Y.mv rfl) rfl $ Kt 11 rfl (by kernel_rfl) hS (fun w' hM => Y.addN rfl rfl (by omega)) rfl $ Ku 12 rfl (by kernel_rfl) hS (Y.idxW _ ((la.length + lx.length + lb.length + i)) rfl rfl hR rfl (by rw [swp_len la lx lb ly lc hXY (by omega)]; omega) U153 (by kernel_rfl)) (fun w' hM => Y.idxW _ ((la.length + lx.length + lb.length + i)) rfl rfl hR rfl (by rw [swp_len la lx lb ly lc hXY (by omega)]; omega) U153 (by kernel_rfl)) rfl ?_
  refine Kt 14 rfl (by kernel_rfl) hS (fun w' hM => Y.mv rfl) rfl $ Kt 15 rfl (by kernel_rfl) hS (fun w' hM => Y.mv rfl) rfl $ Kt 16 rfl (by kernel_rfl) hS (fun w' hM => Y.mv rfl) rfl $ Kt 17 rfl (by kernel_rfl) hS (fun w' hM => Y.addN rfl rfl (by omega)) rfl $ Ku 18 rfl (by kernel_rfl) hS (Y.idxW _ ((la.length + i)) rfl rfl hR rfl (by rw [swp_len la lx lb ly lc hXY (by omega)]; omega) U153 (by kernel_rfl)) (fun w' hM => Y.idxW _ ((la.length + i)) rfl rfl hR rfl (by rw [swp_len la lx lb ly lc hXY (by omega)]; omega) U153 (by kernel_rfl)) rfl $ H.two 13 19 rfl rfl (by kernel_rfl) ?_ ?_
  ·
   refine E.load rfl U155 rfl ((hM.sl 0 rfl).cell (by rw [swp_len la lx lb ly lc hXY (by omega)]; omega)) rfl ?_
   rw [swp_y hXY hi' rfl]
   have hS := hM.pick [] (by decide)
   refine H.back hS $ H.only 19 rfl (by kernel_rfl) $ E.load rfl U155 rfl ((hM.sl 0 rfl).cell (by rw [swp_len la lx lb ly lc hXY (by omega)]; omega)) rfl ?_
   rw [swp_x hXY hi' rfl]
   have hS := hM.pick [] (by decide)
   refine H.back hS $ Ku 20 rfl (by kernel_rfl) hS (Y.idxW _ ((la.length + i)) rfl rfl hR rfl (by rw [swp_len la lx lb ly lc hXY (by omega)]; omega) U153 (by kernel_rfl)) (fun w' hM => Y.idxW _ ((la.length + i)) rfl rfl hR rfl (by rw [swp_len la lx lb ly lc hXY (by omega)]; omega) U153 (by kernel_rfl)) rfl $ H.only 21 rfl (by kernel_rfl) $ E.storeL (j := (la.length + i)) 0 ly[i] hM rfl rfl rfl (by kernel_rfl) rfl rfl (by rw [swp_len la lx lb ly lc hXY (by omega)]; omega) ?_
   intro w2 hM
   have hS := hM.pick [] (by decide)
   refine H.back hS $ Ku 22 rfl (by kernel_rfl) hS (Y.idxW _ ((la.length + lx.length + lb.length + i)) rfl rfl hR rfl (by rw [swp_len la lx lb ly lc hXY (by omega)]; omega) U153 (by kernel_rfl)) (fun w' hM => Y.idxW _ ((la.length + lx.length + lb.length + i)) rfl rfl hR rfl (by rw [swp_len la lx lb ly lc hXY (by omega)]; omega) U153 (by kernel_rfl)) rfl $ H.only 23 rfl (by kernel_rfl) $ E.storeL (j := (la.length + lx.length + lb.length + i)) 0 lx[i] hM rfl rfl rfl (by kernel_rfl) rfl rfl (by rw [List.length_set]; rw [swp_len la lx lb ly lc hXY (by omega)]; omega) ?_
   intro w3 hM
   rw [swp_step hXY hi' rfl rfl] at hM
   have hS := hM.pick [] (by decide)
   refine H.back hS $ H.done (by kernel_rfl) $ X.outN $ X.next $ C.region $ Km rfl $ E.addN (b := 1) rfl rfl (by omega) rfl $ Kn rfl $ E.nil $ X.again1 (i + 1) (S1 rfl) rfl ⟨hM, by omega⟩ (by omega)
  refine E.load rfl U155 rfl ((hM.sl 0 rfl).cell (by rw [swp_len la lx lb ly lc hXY (by omega)]; omega)) rfl ?_
  rw [swp_x hXY hi' rfl]
  have hS := hM.pick [] (by decide)
  refine H.back hS $ H.only 13 rfl (by kernel_rfl) $ E.load rfl U155 rfl ((hM.sl 0 rfl).cell (by rw [swp_len la lx lb ly lc hXY (by omega)]; omega)) rfl ?_
  rw [swp_y hXY hi' rfl]
  have hS := hM.pick [] (by decide)
  refine H.back hS $ Ku 20 rfl (by kernel_rfl) hS (Y.idxW _ ((la.length + i)) rfl rfl hR rfl (by rw [swp_len la lx lb ly lc hXY (by omega)]; omega) U153 (by kernel_rfl)) (fun w' hM => Y.idxW _ ((la.length + i)) rfl rfl hR rfl (by rw [swp_len la lx lb ly lc hXY (by omega)]; omega) U153 (by kernel_rfl)) rfl $ H.only 21 rfl (by kernel_rfl) $ E.storeL (j := (la.length + i)) 0 ly[i] hM rfl rfl rfl (by kernel_rfl) rfl rfl (by rw [swp_len la lx lb ly lc hXY (by omega)]; omega) ?_
  intro w4 hM
  have hS := hM.pick [] (by decide)
  refine H.back hS $ Ku 22 rfl (by kernel_rfl) hS (Y.idxW _ ((la.length + lx.length + lb.length + i)) rfl rfl hR rfl (by rw [swp_len la lx lb ly lc hXY (by omega)]; omega) U153 (by kernel_rfl)) (fun w' hM => Y.idxW _ ((la.length + lx.length + lb.length + i)) rfl rfl hR rfl (by rw [swp_len la lx lb ly lc hXY (by omega)]; omega) U153 (by kernel_rfl)) rfl $ H.only 23 rfl (by kernel_rfl) $ E.storeL (j := (la.length + lx.length + lb.length + i)) 0 lx[i] hM rfl rfl rfl (by kernel_rfl) rfl rfl (by rw [List.length_set]; rw [swp_len la lx lb ly lc hXY (by omega)]; omega) ?_
  intro w5 hM
  rw [swp_step hXY hi' rfl rfl] at hM
  have hS := hM.pick [] (by decide)
  refine H.back hS $ H.done (by kernel_rfl) $ X.outN $ X.next $ C.region $ Km rfl $ E.addN (b := 1) rfl rfl (by omega) rfl $ Kn rfl $ E.nil $ X.again1 (i + 1) (S1 rfl) rfl ⟨hM, by omega⟩ (by omega)
 obtain rfl : i = lx.length := by omega
 rw [swp_end la lx lb ly lc hXY] at hM
 refine C.exit $ X.exitT $ X.exitT $ X.outE $ end0 rfl ?_
 exact hM
end Go.Proofs.YtajklleiifhipaaGreatDoor
namespace Go.Proofs.YtajklleiifhipaaGreatDoor
open Go.RowKit Sym
theorem rot_u {α : Type} (qa qu qv qc : List α) (j : Nat) : qa ++ qu ++ qv ++ qc = qa ++ qu.take j ++ qu.drop j ++ qv ++ qc := by rw [List.append_assoc qa (qu.take j), List.take_append_drop]
theorem rot_v {α : Type} (qa qu qv qc : List α) (j : Nat) : qa ++ qu ++ qv ++ qc = qa ++ qu ++ qv.take j ++ qv.drop j ++ qc := by rw [List.append_assoc (qa ++ qu) (qv.take j), List.take_append_drop]
set_option maxHeartbeats 1000000 in
theorem rotate_ret (p : Value) (la lu lv lc : List It) (a m b : Nat) (fv : Value) (P : List It) (w : World) (hs : Sep w [Rg.sl ip 155 p (la ++ lu ++ lv ++ lc), Rg.pool P P]) (ha : a = la.length) (hm : m = la.length + lu.length) (hb : b = m + lv.length) (hu : 0 < lu.length) (hv : 0 < lv.length) (hlen : (la ++ lu ++ lv ++ lc).length ≤ 1000000) :
  Ret Tryz.prog 165 #[p, i64 a, i64 m, i64 b, fv] w fun v w' => M w (fpU [Rg.sl ip 155 p (la ++ lu ++ lv ++ lc), Rg.pool P P]) w' [Rg.sl ip 155 p (la ++ lv ++ lu ++ lc), Rg.pool P P] := by
 have hM := M.startS hs
 refine enter Tryz.func165 rfl (by kernel_rfl) Tryz.ntmps165 rfl $ Kb $ Kf rfl $ ?_
 simp only [List.length_append] at hlen
 refine E.subN rfl rfl (by omega) rfl $ Kd rfl $ Kf rfl $ E.subN rfl rfl (by omega) rfl $ Kc rfl $ C.seq $ C.block $ C.loop4 [(0, _), (2, _), (4, _)] rfl (fun (qa : (List It)) (qu : (List It)) (qv : (List It)) (qc : (List It)) => [(10, i64 (qu.length : Int)), (11, i64 (qv.length : Int))]) (fun (qa : (List It)) (qu : (List It)) (qv : (List It)) (qc : (List It)) w' => M w (fpU [Rg.sl ip 155 p (la ++ lu ++ lv ++ lc), Rg.pool P P]) w' [Rg.sl ip 155 p (qa ++ qu ++ qv ++ qc), Rg.pool P P] ∧ qa.length + qu.length = m ∧ 0 < qu.length ∧ 0 < qv.length ∧ qa ++ qv ++ qu ++ qc = la ++ lv ++ lu ++ lc) (fun (qa : (List It)) (qu : (List It)) (qv : (List It)) (qc : (List It)) => qu.length + qv.length) la lu lv lc ?_ ?_ ?_
 · exact Sub.cons (look_val rfl (by omega)) $ Sub.cons (look_val rfl (by omega)) $ Sub.nil _
 · exact ⟨hM, hm.symm, hu, hv, rfl⟩
 rintro qa qu qv qc w0 ⟨hM, hq, hu0, hv0, he⟩
 refine C.seq $ Kb $ Kf rfl $ Kp rfl $ Ka $ C.cond' rfl (fun hC0 => ?_) (fun hC0 => ?_)
 ·
  have hql : qa.length + qv.length + qu.length + qc.length = la.length + lv.length + lu.length + lc.length := by
   have := congrArg List.length he
   simpa only [List.length_append] using this
  refine Kk $ C.block $ Kb $ Kf rfl $ Kp rfl $ Ka $ C.cond' rfl (fun hC1 => ?_) (fun hC1 => ?_)
  ·
   have hul : (qu.take qv.length).length = qv.length := by rw [List.length_take]; omega
   have hdl : (qu.drop qv.length).length = qu.length - qv.length := by simp
   rw [rot_u qa qu qv qc qv.length] at hM
   refine Kb $ Kf rfl $ Km rfl $ E.subN rfl rfl (by omega) rfl $ Kf rfl $ Km rfl $ E.call rfl rfl (swap_ret p qa (qu.take qv.length) (qu.drop qv.length) qv qc _ _ _ fv P _ (hM.pick [0, 1] (by decide)).sep (by omega) (by omega) (by omega) (by omega) (by simp only [List.length_append]; omega)) ?_
   rintro _ w2 m2
   have hM := hM.calls [0, 1] (by decide) rfl (by simp) m2
   refine Ka $ C.region $ Kf rfl $ E.subN rfl rfl (by omega) rfl $ Kn rfl $ E.nil $ X.outN $ X.again4 (qa ++ qv) (qu.drop qv.length) (qu.take qv.length) qc (Sub.cons (look_val rfl (by omega)) $ Sub.cons (look_val rfl (by omega)) $ Sub.nil _) rfl ⟨hM, by rw [List.length_append]; omega, by omega, by omega, by rw [← he, List.append_assoc (qa ++ qv), List.take_append_drop]⟩ (by omega)
  have hul : (qv.take (qv.length - qu.length)).length = qv.length - qu.length := by rw [List.length_take]; omega
  have hdl : (qv.drop (qv.length - qu.length)).length = qu.length := by simp; omega
  rw [rot_v qa qu qv qc (qv.length - qu.length)] at hM
  refine Kb $ Kf rfl $ Km rfl $ E.subN rfl rfl (by omega) rfl $ Kf rfl $ E.addN rfl rfl (by omega) rfl $ Km rfl $ E.subN rfl rfl (by omega) rfl $ Kf rfl $ E.call rfl rfl (swap_ret p qa qu (qv.take (qv.length - qu.length)) (qv.drop (qv.length - qu.length)) qc _ _ _ fv P _ (hM.pick [0, 1] (by decide)).sep (by omega) (by omega) (by omega) (by omega) (by simp only [List.length_append]; omega)) ?_
  rintro _ w3 m3
  have hM := hM.calls [0, 1] (by decide) rfl (by simp) m3
  refine Ka $ C.region $ Kf rfl $ E.subN rfl rfl (by omega) rfl $ Kn rfl $ E.nil $ X.outN $ X.again4 qa (qv.drop (qv.length - qu.length)) (qv.take (qv.length - qu.length)) (qu ++ qc) (Sub.cons (look_val rfl (by omega)) $ Sub.cons (look_val rfl (by omega)) $ Sub.nil _) rfl ⟨hM.to (Sym.two (by rw [← List.append_assoc]) rfl), by omega, by omega, by omega, by rw [← he, List.append_assoc qa, List.take_append_drop, ← List.append_assoc]⟩ (by omega)
 have hql : qa.length + qv.length + qu.length + qc.length = la.length + lv.length + lu.length + lc.length := by
  have := congrArg List.length he
  simpa only [List.length_append] using this
 have hM := hM.to (Sym.two (show _ = Rg.sl ip 155 p (qa ++ qu ++ [] ++ qv ++ qc) by rw [List.append_nil]) rfl)
 refine Kx $ C.region $ Kf rfl $ Km rfl $ E.subN rfl rfl (by omega) rfl $ Kf rfl $ Km rfl $ E.call rfl rfl (swap_ret p qa qu [] qv qc _ _ _ fv P _ (hM.pick [0, 1] (by decide)).sep (by omega) (by simp; omega) (by omega) (by omega) (by simp only [List.length_append, List.length_nil]; omega)) ?_
 rintro _ w4 m4
 have hM := hM.calls [0, 1] (by decide) rfl (by simp) m4
 refine E.nil $ end0 rfl ?_
 exact hM.to (Sym.two (by rw [← he, List.append_nil]) rfl)
end Go.Proofs.YtajklleiifhipaaGreatDoor
namespace Go.Proofs.YtajklleiifhipaaGreatDoor
open Go.RowKit Sym
theorem srt_take {α : Type} {g : α → Nat} {l : List α} {u : Nat} (h : Srt g l) (hu : u ≤ l.length) {w : Nat} (hw : u = 0 ∨ (l.map g).getD (u - 1) 0 ≤ w) : ∀ z ∈ l.take u, g z ≤ w := by
 intro z hz
 obtain ⟨k, hk, rfl⟩ := List.getElem_of_mem hz
 rw [List.length_take] at hk
 have hu' : u - 1 < l.length := by omega
 have hg : (l.map g).getD (u - 1) 0 = g l[u - 1] := by rw [List.getD_eq_getElem?_getD, List.getElem?_map, List.getElem?_eq_getElem hu']; rfl
 rw [List.getElem_take]
 rcases hw with hw | hw
 · omega
 rw [hg] at hw
 by_cases e : k = u - 1
 · subst e; exact hw
 have := List.pairwise_iff_getElem.1 h k (u - 1) (by omega) hu' (by omega)
 omega
theorem srt_drop {α : Type} {g : α → Nat} {l : List α} {u : Nat} (h : Srt g l) {w : Nat} (hw : u = l.length ∨ w ≤ (l.map g).getD u 0) : ∀ z ∈ l.drop u, w ≤ g z := by
 intro z hz
 obtain ⟨k, hk, rfl⟩ := List.getElem_of_mem hz
 rw [List.length_drop] at hk
 have hu' : u < l.length := by omega
 have hg : (l.map g).getD u 0 = g l[u] := by rw [List.getD_eq_getElem?_getD, List.getElem?_map, List.getElem?_eq_getElem hu']; rfl
 rw [List.getElem_drop]
 rcases hw with hw | hw
 · omega
 rw [hg] at hw
 by_cases e : k = 0
 · subst e; exact hw
 have := List.pairwise_iff_getElem.1 h u (u + k) hu' (by omega) (by omega)
 omega
theorem mrg_one {α : Type} {g : α → Nat} {x : α} {l : List α} {u : Nat} (h : Srt g l) (hu : u ≤ l.length) (h1 : u = 0 ∨ (l.map g).getD (u - 1) 0 < g x) (h2 : u = l.length ∨ g x ≤ (l.map g).getD u 0) : mrg g [x] l = l.take u ++ x :: l.drop u := by
  have a1 : ∀ z ∈ l.take u, g z < g x := fun z hz => by
    rcases Nat.eq_zero_or_pos (g x) with e | e
    · have : u = 0 := by omega
      subst this; simp at hz
    have := srt_take h hu (w := g x - 1) (by omega) z hz; omega
  have a2 := srt_drop h h2
  have e1 := mrg_split (g := g) [] (l.take u) [x] (l.drop u) (fun y hy => by cases hy) (fun y hy z hz => by rw [List.mem_singleton] at hz; subst hz; exact a1 y hy)
  have e2 := mrg_split (g := g) [x] [] [] (l.drop u) (fun y hy z hz => by rw [List.mem_singleton] at hy; subst hy; exact a2 z hz) (fun y hy => by cases hy)
  rw [List.take_append_drop, List.nil_append, mrg] at e1
  rw [List.append_nil, List.nil_append, mrg_nil, mrg] at e2
  rw [e1, e2]; rfl
theorem mrg_two {α : Type} {g : α → Nat} {y : α} {l : List α} {u : Nat} (h : Srt g l) (hu : u ≤ l.length) (h1 : u = 0 ∨ (l.map g).getD (u - 1) 0 ≤ g y) (h2 : u = l.length ∨ g y < (l.map g).getD u 0) : mrg g l [y] = l.take u ++ y :: l.drop u := by
 have a1 := srt_take h hu h1
 have a2 := srt_drop (u := u) h (w := g y + 1) (by omega)
 have e1 := mrg_split (g := g) (l.take u) [] (l.drop u) [y] (fun x hx z hz => by rw [List.mem_singleton] at hz; subst hz; exact a1 x hx) (fun x hx => by cases hx)
 have e2 := mrg_split (g := g) [] [y] (l.drop u) [] (fun x hx => by cases hx) (fun z hz x hx => by rw [List.mem_singleton] at hz; subst hz; have := a2 x hx; omega)
 rw [List.take_append_drop, List.nil_append, mrg_nil] at e1
 rw [List.append_nil, List.nil_append, mrg_nil, mrg] at e2
 rw [e1, e2]; rfl
end Go.Proofs.YtajklleiifhipaaGreatDoor
namespace Go.Proofs.YtajklleiifhipaaGreatDoor
open Go.RowKit Sym
theorem shr_u64 (c : Nat) : (c : Int) / 2 ^ min ((1 : Int)).toNat IntKind.u64.bits = ((c / 2 : Nat) : Int) := by
 have e1 : min ((1 : Int)).toNat IntKind.u64.bits = 1 := by decide
 rw [e1]; simp
def W (D : List It) (k : Nat) : Nat := (D.map wi).getD k 0
theorem W_eq {D : List It} {k : Nat} (h : k < D.length) : W D k = wi D[k] := wget h
theorem W_x {la lx ly lc : List It} {k : Nat} (h : k < lx.length) : W (la ++ lx ++ ly ++ lc) (la.length + k) = (lx.map wi).getD k 0 := by
 unfold W
 rw [List.getD_eq_getElem?_getD, List.getD_eq_getElem?_getD, List.getElem?_map, List.getElem?_map, List.append_assoc, List.append_assoc, List.getElem?_append_right (by omega), Nat.add_sub_cancel_left, List.getElem?_append_left h]
theorem W_y {la lx ly lc : List It} {k : Nat} (h : k < ly.length) : W (la ++ lx ++ ly ++ lc) (la.length + lx.length + k) = (ly.map wi).getD k 0 := by
 unfold W
 rw [List.getD_eq_getElem?_getD, List.getD_eq_getElem?_getD, List.getElem?_map, List.getElem?_map, List.append_assoc, List.getElem?_append_right (by simp), List.length_append, Nat.add_sub_cancel_left, List.getElem?_append_left h]
theorem D_len {la lx ly lc : List It} : (la ++ lx ++ ly ++ lc).length = la.length + lx.length + ly.length + lc.length := by simp only [List.length_append]
theorem sym_cut {lx ly : List It} {s t : Nat} (hx : Srt wi lx) (hy : Srt wi ly) (hs : s ≤ lx.length) (ht : t ≤ ly.length)
    (h1 : s = 0 ∨ t = ly.length ∨ (lx.map wi).getD (s - 1) 0 ≤ (ly.map wi).getD t 0) (h2 : t = 0 ∨ s = lx.length ∨ (ly.map wi).getD (t - 1) 0 < (lx.map wi).getD s 0) :
    mrg wi lx ly = mrg wi (lx.take s) (ly.take t) ++ mrg wi (lx.drop s) (ly.drop t) := by
  have := mrg_split (g := wi) (lx.take s) (ly.take t) (lx.drop s) (ly.drop t) (fun x h y h' => by
    rcases h1 with h1 | h1 | h1
    · subst h1; simp at h
    · subst h1; simp at h'
    · have a := srt_take hx hs (.inr h1) x h
      have b := srt_drop hy (u := t) (w := (ly.map wi).getD t 0) (.inr (Nat.le_refl _)) y h'
      omega) (fun y h x h' => by
    rcases h2 with h2 | h2 | h2
    · subst h2; simp at h
    · subst h2; simp at h'
    have a := srt_take hy ht (w := (ly.map wi).getD (t - 1) 0) (.inr (Nat.le_refl _)) y h
    have b := srt_drop hx (u := s) (w := (lx.map wi).getD s 0) (.inr (Nat.le_refl _)) x h'
    omega)
  rw [List.take_append_drop, List.take_append_drop] at this; exact this
end Go.Proofs.YtajklleiifhipaaGreatDoor
namespace Go.Proofs.YtajklleiifhipaaGreatDoor
open Go.RowKit Sym
theorem dat_x0 {α : Type} (T S : List α) (x : α) (U : List α) {m j : Nat} (h : m ≤ S.length) (e : j = T.length + m) (hj : j < (dat T S x U m).length) : (dat T S x U m)[j] = x := by
 have : (dat T S x U m)[j]? = some x := by
  unfold dat
  rw [List.append_assoc, List.getElem?_append_right (by simp; omega)]
  have : j - (T ++ S.take m).length = 0 := by simp; omega
  rw [this]; rfl
 rw [List.getElem?_eq_getElem hj, Option.some.injEq] at this; exact this
theorem dat_y0 {α : Type} (T S : List α) (x : α) (U : List α) {m j : Nat} (h : m < S.length) (e : j = T.length + m + 1) (hj : j < (dat T S x U m).length) : (dat T S x U m)[j] = S[m] := by
 have : (dat T S x U m)[j]? = some S[m] := by
  rw [dat_here T S x U h, List.getElem?_append_right (by simp; omega)]
  have : j - (T ++ S.take m).length = 1 := by simp; omega
  rw [this]; rfl
 rw [List.getElem?_eq_getElem hj, Option.some.injEq] at this; exact this
theorem dat_up {α : Type} (T S : List α) (x : α) (U : List α) {m i j : Nat} (h : m < S.length) (h1 : i = T.length + m) (h2 : j = T.length + m + 1) : ((dat T S x U m).set i S[m]).set j x = dat T S x U (m + 1) := by
 rw [dat_succ T S x U h, dat_here T S x U h]
 subst h1 h2
 rw [List.set_append_right _ _ (by simp; omega), List.set_append_right _ _ (by simp; omega), show T.length + m - (T ++ S.take m).length = 0 by simp; omega, show T.length + m + 1 - (T ++ S.take m).length = 1 by simp; omega]; rfl
def SymOk (N : Nat) : Prop := ∀ (p : Value) (la lx ly lc : List It) (a m b : Nat) (P : List It) (w : World), Sep w [Rg.sl ip 155 p (la ++ lx ++ ly ++ lc), Rg.pool P P] → a = la.length → m = a + lx.length → b = m + ly.length → 0 < lx.length → 0 < ly.length → Srt wi lx → Srt wi ly → (∀ z ∈ la ++ lx ++ ly ++ lc, z ∈ P) → (la ++ lx ++ ly ++ lc).length ≤ 1000000 → lx.length + ly.length < N →
 Ret Tryz.prog 163 #[p, i64 a, i64 m, i64 b, fnv 133 []] w fun v w' => M w (fpU [Rg.sl ip 155 p (la ++ lx ++ ly ++ lc), Rg.pool P P]) w' [Rg.sl ip 155 p (la ++ mrg wi lx ly ++ lc), Rg.pool P P]
set_option maxHeartbeats 4000000 in
theorem sym_step (N : Nat) (ih : SymOk N) (p : Value) (la lx ly lc : List It) (a m b : Nat) (P : List It) (w : World) (hs : Sep w [Rg.sl ip 155 p (la ++ lx ++ ly ++ lc), Rg.pool P P]) (ha : a = la.length) (hm : m = a + lx.length) (hb : b = m + ly.length) (hx0 : 0 < lx.length) (hy0 : 0 < ly.length) (hsx : Srt wi lx) (hsy : Srt wi ly) (hP : ∀ z ∈ la ++ lx ++ ly ++ lc, z ∈ P) (hlen : (la ++ lx ++ ly ++ lc).length ≤ 1000000) (hN : lx.length + ly.length < N + 1) :
    Ret Tryz.prog 163 #[p, i64 a, i64 m, i64 b, fnv 133 []] w fun v w' => M w (fpU [Rg.sl ip 155 p (la ++ lx ++ ly ++ lc), Rg.pool P P]) w' [Rg.sl ip 155 p (la ++ mrg wi lx ly ++ lc), Rg.pool P P] := by
  have hM := M.startS hs
  refine enter Tryz.func163 rfl (by kernel_rfl) Tryz.ntmps163 rfl $ C.seq $ Kb $ Kf rfl $ ?_
  have hDl := D_len (la := la) (lx := lx) (ly := ly) (lc := lc)
  rw [hDl] at hlen
  refine E.subN rfl rfl (by omega) rfl $ Kp rfl $ Ka $ C.cond' rfl (fun hC0 => ?_) (fun hC0 => ?_)
  ·
    have hx1 : lx.length = 1 := by omega
    obtain ⟨x, hx⟩ : ∃ x, lx = [x] := List.length_eq_one_iff.1 hx1
    have hxa : W (la ++ lx ++ ly ++ lc) a = wi x := by
      have := W_x (la := la) (lx := lx) (ly := ly) (lc := lc) (k := 0) (by omega)
      rw [Nat.add_zero, ← ha] at this; rw [this, hx]; rfl
    rw [W_eq (by rw [D_len]; omega)] at hxa
    refine Kb $ Km rfl $ Kd rfl $ Km rfl $ Kc rfl $ C.seq $ C.block $ C.loop2 [(0, _), (1, _), (4, _)] rfl (fun (u : Nat) (t : Nat) => [(10, i64 ((m + u : Nat) : Int)), (11, i64 ((m + t : Nat) : Int))]) (fun (u : Nat) (t : Nat) w' => M w (fpU [Rg.sl ip 155 p (la ++ lx ++ ly ++ lc), Rg.pool P P]) w' [Rg.sl ip 155 p (la ++ lx ++ ly ++ lc), Rg.pool P P] ∧ u ≤ t ∧ t ≤ ly.length ∧ (u = 0 ∨ (ly.map wi).getD (u - 1) 0 < wi x) ∧ (t = ly.length ∨ wi x ≤ (ly.map wi).getD t 0)) (fun (u : Nat) (t : Nat) => t - u) 0 ly.length ?_ ?_ ?_
    · exact Sub.cons rfl $ Sub.cons (look_val rfl (by omega)) $ Sub.nil _
    · exact ⟨hM, Nat.zero_le _, Nat.le_refl _, .inl rfl, .inl rfl⟩
    rintro u t w0 ⟨hM, hut, htl, hl1, hl2⟩
    refine C.seq $ Kb $ Kf rfl $ Kp rfl $ Ka $ C.cond' rfl (fun hC1 => ?_) (fun hC1 => ?_)
    ·
      obtain ⟨c, hc⟩ : ∃ c, c = (u + t) / 2 := ⟨_, rfl⟩
      have hh : (m + u + (m + t)) / 2 = m + c := by omega
      have hcw : wi ((la ++ lx ++ ly ++ lc)[m + c]'(by rw [D_len]; omega)) = (ly.map wi).getD c 0 := by
        rw [← W_eq, ← W_y (la := la) (lx := lx) (lc := lc) (show c < ly.length by omega)]; congr 1; omega
      refine Kk $ C.block $ Kb $ Kf rfl $ E.addN rfl rfl (by omega) rfl $ E.conv rfl U3 U64 (IntWalk.u64_in _ (by omega)) rfl $ E.shr rfl rfl (by decide) (shr_u64 _) rfl $ E.conv rfl U64 U3 (IntWalk.i64_in _ (by omega)) rfl ?_
      rw [hh]
      refine Kc rfl $ C.seq $ C.drawnT 9 (by kernel_rfl) (by kernel_rfl) fun wh1 hwh1 => ?_
      have hM := hM.ext hwh1
      refine S.mv rfl rfl $ S.mv rfl rfl $ S.mv rfl rfl $ S.idx1 (k := (m + c)) rfl rfl (hM.sl 0 rfl) rfl (by rw [D_len]; omega) U153 (by kernel_rfl) rfl $ S.load rfl U155 rfl ((hM.sl 0 rfl).cell (by rw [D_len]; omega)) rfl $ S.mv rfl rfl $ S.mv rfl rfl $ S.idx1 (k := a) rfl rfl (hM.sl 0 rfl) rfl (by rw [D_len]; omega) U153 (by kernel_rfl) rfl $ S.load rfl U155 rfl ((hM.sl 0 rfl).cell (by rw [D_len]; omega)) rfl $ S.nil $ E.callv rfl rfl rfl (cmpw_ret (la ++ lx ++ ly ++ lc)[m + c] (la ++ lx ++ ly ++ lc)[a] P P _ (hM.pool 1 rfl) (hP _ (List.getElem_mem _)) (hP _ (List.getElem_mem _))) ?_
      rintro _ w3 ⟨rfl, x3⟩
      have hM := hM.ext x3
      have hcl := cmv_lt (wi (la ++ lx ++ ly ++ lc)[m + c]) (wi (la ++ lx ++ ly ++ lc)[a])
      refine Kp rfl $ Ka $ C.cond' rfl (fun hC2 => ?_) (fun hC2 => ?_)
      ·
        refine C.region $ Km rfl $ E.addN (b := 1) rfl rfl (by omega) rfl $ Kn rfl $ E.nil $ X.outN $ X.again2 (c + 1) t (Sub.cons rfl $ S1 rfl) rfl ⟨hM, by omega, htl, .inr (by rw [Nat.add_sub_cancel]; omega), hl2⟩ (by omega)
      refine C.region $ Km rfl $ Kn rfl $ E.nil $ X.outN $ X.again2 u c (Sub.cons rfl $ S1 rfl) rfl ⟨hM, by omega, by omega, hl1, .inr (by omega)⟩ (by omega)
    obtain rfl : u = t := by omega
    have hmo := mrg_one (x := x) hsy htl hl1 hl2
    have hM := hM.to (Sym.two (show _ = Rg.sl ip 155 p (dat la ly x lc 0) by rw [hx]; simp [dat]) rfl)
    refine Kx $ C.seq $ Kb $ Km rfl $ Kc rfl $ C.block $ C.loop1 [(0, _), (10, _)] rfl (fun (q : Nat) => [(13, i64 ((a + q : Nat) : Int))]) (fun (q : Nat) w' => M w (fpU [Rg.sl ip 155 p (la ++ lx ++ ly ++ lc), Rg.pool P P]) w' [Rg.sl ip 155 p (dat la ly x lc q), Rg.pool P P] ∧ q ≤ u) (fun (q : Nat) => u - q) 0 ?_ ?_ ?_
    · exact S1 rfl
    · exact ⟨hM, Nat.zero_le _⟩
    rintro q w3 ⟨hM, hq⟩
    refine C.seq $ Kb $ Kf rfl $ E.subN (b := 1) rfl rfl (by omega) rfl $ Kp rfl $ Ka $ C.cond' rfl (fun hC3 => ?_) (fun hC3 => ?_)
    ·
      have hq' : q < ly.length := by omega
      refine Kk $ C.seq $ C.block $ C.heldM hM [] (by decide) (by kernel_rfl) fun wh4 hM hS => ?_
      have hR := hM.sl 0 rfl
      refine Kt 0 rfl (by kernel_rfl) hS (fun w' hM => Y.mv rfl) rfl $ Kt 1 rfl (by kernel_rfl) hS (fun w' hM => Y.mv rfl) rfl $ Kt 2 rfl (by kernel_rfl) hS (fun w' hM => Y.mv rfl) rfl $ Kt 3 rfl (by kernel_rfl) hS (fun w' hM => Y.mv rfl) rfl $ Kt 4 rfl (by kernel_rfl) hS (fun w' hM => Y.addN (b := 1) rfl rfl (by omega)) rfl $ Kt 5 rfl (by kernel_rfl) hS (fun w' hM => Y.mv rfl) rfl $ Kt 6 rfl (by kernel_rfl) hS (fun w' hM => Y.mv rfl) rfl $ Kt 7 rfl (by kernel_rfl) hS (fun w' hM => Y.addN (b := 1) rfl rfl (by omega)) rfl $ Ku 8 rfl (by kernel_rfl) hS (Y.idxW _ (a + q + 1) rfl rfl hR rfl (by rw [dat_len _ _ _ _ (by omega)]; omega) U153 (by kernel_rfl)) (fun w' hM => Y.idxW _ (a + q + 1) rfl rfl hR rfl (by rw [dat_len _ _ _ _ (by omega)]; omega) U153 (by kernel_rfl)) rfl $ Kt 10 rfl (by kernel_rfl) hS (fun w' hM => Y.mv rfl) rfl $ Kt 11 rfl (by kernel_rfl) hS (fun w' hM => Y.mv rfl) rfl $ Ku 12 rfl (by kernel_rfl) hS (Y.idxW _ (a + q) rfl rfl hR rfl (by rw [dat_len _ _ _ _ (by omega)]; omega) U153 (by kernel_rfl)) (fun w' hM => Y.idxW _ (a + q) rfl rfl hR rfl (by rw [dat_len _ _ _ _ (by omega)]; omega) U153 (by kernel_rfl)) rfl ?_
      refine H.two 9 13 rfl rfl (by kernel_rfl) ?_ ?_
      ·
        refine E.load rfl U155 rfl ((hM.sl 0 rfl).cell (by rw [dat_len _ _ _ _ (by omega)]; omega)) rfl ?_
        rw [dat_y0 _ _ _ _ hq' (by omega)]
        have hS := hM.pick [] (by decide)
        refine H.back hS $ H.only 13 rfl (by kernel_rfl) $ E.load rfl U155 rfl ((hM.sl 0 rfl).cell (by rw [dat_len _ _ _ _ (by omega)]; omega)) rfl ?_
        rw [dat_x0 _ _ _ _ (by omega) (by omega)]
        have hS := hM.pick [] (by decide)
        refine H.back hS $ Ku 14 rfl (by kernel_rfl) hS (Y.idxW _ (a + q) rfl rfl hR rfl (by rw [dat_len _ _ _ _ (by omega)]; omega) U153 (by kernel_rfl)) (fun w' hM => Y.idxW _ (a + q) rfl rfl hR rfl (by rw [dat_len _ _ _ _ (by omega)]; omega) U153 (by kernel_rfl)) rfl $ H.only 15 rfl (by kernel_rfl) $ E.storeL (j := a + q) 0 ly[q] hM rfl rfl rfl (by kernel_rfl) rfl rfl (by rw [dat_len _ _ _ _ (by omega)]; omega) ?_
        intro w5 hM
        have hS := hM.pick [] (by decide)
        refine H.back hS $ Ku 16 rfl (by kernel_rfl) hS (Y.idxW _ (a + q + 1) rfl rfl hR rfl (by rw [dat_len _ _ _ _ (by omega)]; omega) U153 (by kernel_rfl)) (fun w' hM => Y.idxW _ (a + q + 1) rfl rfl hR rfl (by rw [dat_len _ _ _ _ (by omega)]; omega) U153 (by kernel_rfl)) rfl $ H.only 17 rfl (by kernel_rfl) $ E.storeL (j := a + q + 1) 0 x hM rfl rfl rfl (by kernel_rfl) rfl rfl (by rw [List.length_set]; rw [dat_len _ _ _ _ (by omega)]; omega) ?_
        intro w6 hM
        rw [dat_up _ _ _ _ hq' (by omega) (by omega)] at hM
        have hS := hM.pick [] (by decide)
        refine H.back hS $ H.done (by kernel_rfl) $ X.outN $ X.next $ C.region $ Km rfl $ E.addN (b := 1) rfl rfl (by omega) rfl $ Kn rfl $ E.nil $ X.again1 (q + 1) (S1 rfl) rfl ⟨hM, by omega⟩ (by omega)
      refine E.load rfl U155 rfl ((hM.sl 0 rfl).cell (by rw [dat_len _ _ _ _ (by omega)]; omega)) rfl ?_
      rw [dat_x0 _ _ _ _ (by omega) (by omega)]
      have hS := hM.pick [] (by decide)
      refine H.back hS $ H.only 9 rfl (by kernel_rfl) $ E.load rfl U155 rfl ((hM.sl 0 rfl).cell (by rw [dat_len _ _ _ _ (by omega)]; omega)) rfl ?_
      rw [dat_y0 _ _ _ _ hq' (by omega)]
      have hS := hM.pick [] (by decide)
      refine H.back hS $ Ku 14 rfl (by kernel_rfl) hS (Y.idxW _ (a + q) rfl rfl hR rfl (by rw [dat_len _ _ _ _ (by omega)]; omega) U153 (by kernel_rfl)) (fun w' hM => Y.idxW _ (a + q) rfl rfl hR rfl (by rw [dat_len _ _ _ _ (by omega)]; omega) U153 (by kernel_rfl)) rfl $ H.only 15 rfl (by kernel_rfl) $ E.storeL (j := a + q) 0 ly[q] hM rfl rfl rfl (by kernel_rfl) rfl rfl (by rw [dat_len _ _ _ _ (by omega)]; omega) ?_
      intro w7 hM
      have hS := hM.pick [] (by decide)
      refine H.back hS $ Ku 16 rfl (by kernel_rfl) hS (Y.idxW _ (a + q + 1) rfl rfl hR rfl (by rw [dat_len _ _ _ _ (by omega)]; omega) U153 (by kernel_rfl)) (fun w' hM => Y.idxW _ (a + q + 1) rfl rfl hR rfl (by rw [dat_len _ _ _ _ (by omega)]; omega) U153 (by kernel_rfl)) rfl $ H.only 17 rfl (by kernel_rfl) $ E.storeL (j := a + q + 1) 0 x hM rfl rfl rfl (by kernel_rfl) rfl rfl (by rw [List.length_set]; rw [dat_len _ _ _ _ (by omega)]; omega) ?_
      intro w8 hM
      rw [dat_up _ _ _ _ hq' (by omega) (by omega)] at hM
      have hS := hM.pick [] (by decide)
      refine H.back hS $ H.done (by kernel_rfl) $ X.outN $ X.next $ C.region $ Km rfl $ E.addN (b := 1) rfl rfl (by omega) rfl $ Kn rfl $ E.nil $ X.again1 (q + 1) (S1 rfl) rfl ⟨hM, by omega⟩ (by omega)
    obtain rfl : q = u := by omega
    refine Kx $ C.ret $ X.retT $ ret0 rfl ?_
    exact hM.to (Sym.two (by rw [hx, hmo]; unfold dat; simp only [List.append_assoc, List.cons_append]) rfl)
  refine Kk $ C.seq $ Kb $ Kf rfl $ E.subN rfl rfl (by omega) rfl $ Kp rfl $ Ka $ C.cond' rfl (fun hC4 => ?_) (fun hC4 => ?_)
  ·
    have hy1 : ly.length = 1 := by omega
    obtain ⟨y, hy⟩ : ∃ y, ly = [y] := List.length_eq_one_iff.1 hy1
    have hym : W (la ++ lx ++ ly ++ lc) m = wi y := by
      have := W_y (la := la) (lx := lx) (ly := ly) (lc := lc) (k := 0) (by omega)
      rw [Nat.add_zero, ← ha, ← hm] at this; rw [this, hy]; rfl
    rw [W_eq (by rw [D_len]; omega)] at hym
    refine Kb $ Km rfl $ Kd rfl $ Km rfl $ Kc rfl $ C.seq $ C.block $ C.loop2 [(0, _), (2, _), (4, _)] rfl (fun (u : Nat) (t : Nat) => [(14, i64 ((a + u : Nat) : Int)), (15, i64 ((a + t : Nat) : Int))]) (fun (u : Nat) (t : Nat) w' => M w (fpU [Rg.sl ip 155 p (la ++ lx ++ ly ++ lc), Rg.pool P P]) w' [Rg.sl ip 155 p (la ++ lx ++ ly ++ lc), Rg.pool P P] ∧ u ≤ t ∧ t ≤ lx.length ∧ (u = 0 ∨ (lx.map wi).getD (u - 1) 0 ≤ wi y) ∧ (t = lx.length ∨ wi y < (lx.map wi).getD t 0)) (fun (u : Nat) (t : Nat) => t - u) 0 lx.length ?_ ?_ ?_
    · exact Sub.cons rfl $ Sub.cons (look_val rfl (by omega)) $ Sub.nil _
    · exact ⟨hM, Nat.zero_le _, Nat.le_refl _, .inl rfl, .inl rfl⟩
    rintro u t w9 ⟨hM, hut, htl, hl1, hl2⟩
    refine C.seq $ Kb $ Kf rfl $ Kp rfl $ Ka $ C.cond' rfl (fun hC5 => ?_) (fun hC5 => ?_)
    ·
      obtain ⟨c, hc⟩ : ∃ c, c = (u + t) / 2 := ⟨_, rfl⟩
      have hh : (a + u + (a + t)) / 2 = a + c := by omega
      have hcw : wi ((la ++ lx ++ ly ++ lc)[a + c]'(by rw [D_len]; omega)) = (lx.map wi).getD c 0 := by
        rw [← W_eq, ← W_x (la := la) (ly := ly) (lc := lc) (show c < lx.length by omega)]; congr 1; omega
      refine Kk $ C.block $ Kb $ Kf rfl $ E.addN rfl rfl (by omega) rfl $ E.conv rfl U3 U64 (IntWalk.u64_in _ (by omega)) rfl $ E.shr rfl rfl (by decide) (shr_u64 _) rfl $ E.conv rfl U64 U3 (IntWalk.i64_in _ (by omega)) rfl ?_
      rw [hh]
      refine Kc rfl $ C.seq $ C.drawnT 9 (by kernel_rfl) (by kernel_rfl) fun wh10 hwh10 => ?_
      have hM := hM.ext hwh10
      refine S.mv rfl rfl $ S.mv rfl rfl $ S.mv rfl rfl $ S.idx1 (k := m) rfl rfl (hM.sl 0 rfl) rfl (by rw [D_len]; omega) U153 (by kernel_rfl) rfl $ S.load rfl U155 rfl ((hM.sl 0 rfl).cell (by rw [D_len]; omega)) rfl $ S.mv rfl rfl $ S.mv rfl rfl $ S.idx1 (k := (a + c)) rfl rfl (hM.sl 0 rfl) rfl (by rw [D_len]; omega) U153 (by kernel_rfl) rfl $ S.load rfl U155 rfl ((hM.sl 0 rfl).cell (by rw [D_len]; omega)) rfl $ S.nil $ E.callv rfl rfl rfl (cmpw_ret (la ++ lx ++ ly ++ lc)[m] (la ++ lx ++ ly ++ lc)[a + c] P P _ (hM.pool 1 rfl) (hP _ (List.getElem_mem _)) (hP _ (List.getElem_mem _))) ?_
      rintro _ w4 ⟨rfl, x4⟩
      have hM := hM.ext x4
      have hcl := cmv_lt (wi (la ++ lx ++ ly ++ lc)[m]) (wi (la ++ lx ++ ly ++ lc)[a + c])
      refine Kp rfl $ E.not rfl rfl $ Ka $ C.cond rfl (fun hC6 => ?_) (fun hC6 => ?_)
      ·
        have hC6 : ¬ cmv (wi (la ++ lx ++ ly ++ lc)[m]) (wi (la ++ lx ++ ly ++ lc)[a + c]) < 0 := by simpa using hC6
        refine C.region $ Km rfl $ E.addN (b := 1) rfl rfl (by omega) rfl $ Kn rfl $ E.nil $ X.outN $ X.again2 (c + 1) t (Sub.cons rfl $ S1 rfl) rfl ⟨hM, by omega, htl, .inr (by rw [Nat.add_sub_cancel]; omega), hl2⟩ (by omega)
      have hC6 : cmv (wi (la ++ lx ++ ly ++ lc)[m]) (wi (la ++ lx ++ ly ++ lc)[a + c]) < 0 := by simpa using hC6
      refine C.region $ Km rfl $ Kn rfl $ E.nil $ X.outN $ X.again2 u c (Sub.cons rfl $ S1 rfl) rfl ⟨hM, by omega, by omega, hl1, .inr (by omega)⟩ (by omega)
    obtain rfl : u = t := by omega
    have hmo := mrg_two (y := y) hsx htl hl1 hl2
    have hM := hM.to (Sym.two (show _ = Rg.sl ip 155 p (dat la lx y lc lx.length) by rw [hy, dat, List.take_length, List.drop_length]) rfl)
    refine Kx $ C.seq $ Kb $ Km rfl $ Kc rfl $ C.block $ C.loop1 [(0, _), (14, _)] rfl (fun (q : Nat) => [(17, i64 ((a + q : Nat) : Int))]) (fun (q : Nat) w' => M w (fpU [Rg.sl ip 155 p (la ++ lx ++ ly ++ lc), Rg.pool P P]) w' [Rg.sl ip 155 p (dat la lx y lc q), Rg.pool P P] ∧ u ≤ q ∧ q ≤ lx.length) (fun (q : Nat) => q) lx.length ?_ ?_ ?_
    · exact Sub.cons (look_val rfl (by omega)) $ Sub.nil _
    · exact ⟨hM, htl, Nat.le_refl _⟩
    rintro q w12 ⟨hM, hq1, hq2⟩
    refine C.seq $ Kb $ Kf rfl $ Kp rfl $ Ka $ C.cond' rfl (fun hC7 => ?_) (fun hC7 => ?_)
    ·
      obtain ⟨r, rfl⟩ : ∃ r, q = r + 1 := ⟨q - 1, by omega⟩
      have hr' : r < lx.length := by omega
      refine Kk $ C.seq $ C.block $ C.heldM hM [] (by decide) (by kernel_rfl) fun wh13 hM hS => ?_
      have hR := hM.sl 0 rfl
      refine Kt 0 rfl (by kernel_rfl) hS (fun w' hM => Y.mv rfl) rfl $ Kt 1 rfl (by kernel_rfl) hS (fun w' hM => Y.mv rfl) rfl $ Kt 2 rfl (by kernel_rfl) hS (fun w' hM => Y.mv rfl) rfl $ Kt 3 rfl (by kernel_rfl) hS (fun w' hM => Y.mv rfl) rfl $ Kt 4 rfl (by kernel_rfl) hS (fun w' hM => Y.subN (b := 1) rfl rfl (by omega)) rfl $ Kt 5 rfl (by kernel_rfl) hS (fun w' hM => Y.mv rfl) rfl $ Kt 6 rfl (by kernel_rfl) hS (fun w' hM => Y.mv rfl) rfl $ Kt 7 rfl (by kernel_rfl) hS (fun w' hM => Y.subN (b := 1) rfl rfl (by omega)) rfl $ Ku 8 rfl (by kernel_rfl) hS (Y.idxW _ (a + (r + 1) - 1) rfl rfl hR rfl (by rw [dat_len _ _ _ _ (by omega)]; omega) U153 (by kernel_rfl)) (fun w' hM => Y.idxW _ (a + (r + 1) - 1) rfl rfl hR rfl (by rw [dat_len _ _ _ _ (by omega)]; omega) U153 (by kernel_rfl)) rfl $ Kt 10 rfl (by kernel_rfl) hS (fun w' hM => Y.mv rfl) rfl $ Kt 11 rfl (by kernel_rfl) hS (fun w' hM => Y.mv rfl) rfl $ Ku 12 rfl (by kernel_rfl) hS (Y.idxW _ (a + (r + 1)) rfl rfl hR rfl (by rw [dat_len _ _ _ _ (by omega)]; omega) U153 (by kernel_rfl)) (fun w' hM => Y.idxW _ (a + (r + 1)) rfl rfl hR rfl (by rw [dat_len _ _ _ _ (by omega)]; omega) U153 (by kernel_rfl)) rfl ?_
      refine H.two 9 13 rfl rfl (by kernel_rfl) ?_ ?_
      ·
        refine E.load rfl U155 rfl ((hM.sl 0 rfl).cell (by rw [dat_len _ _ _ _ (by omega)]; omega)) rfl ?_
        rw [dat_y _ _ _ _ hr' (by omega)]
        have hS := hM.pick [] (by decide)
        refine H.back hS $ H.only 13 rfl (by kernel_rfl) $ E.load rfl U155 rfl ((hM.sl 0 rfl).cell (by rw [dat_len _ _ _ _ (by omega)]; omega)) rfl ?_
        rw [dat_x _ _ _ _ hr' (by omega)]
        have hS := hM.pick [] (by decide)
        refine H.back hS $ Ku 14 rfl (by kernel_rfl) hS (Y.idxW _ (a + (r + 1)) rfl rfl hR rfl (by rw [dat_len _ _ _ _ (by omega)]; omega) U153 (by kernel_rfl)) (fun w' hM => Y.idxW _ (a + (r + 1)) rfl rfl hR rfl (by rw [dat_len _ _ _ _ (by omega)]; omega) U153 (by kernel_rfl)) rfl $ H.only 15 rfl (by kernel_rfl) $ E.storeL (j := a + (r + 1)) 0 lx[r] hM rfl rfl rfl (by kernel_rfl) rfl rfl (by rw [dat_len _ _ _ _ (by omega)]; omega) ?_
        intro w14 hM
        have hS := hM.pick [] (by decide)
        refine H.back hS $ Ku 16 rfl (by kernel_rfl) hS (Y.idxW _ (a + (r + 1) - 1) rfl rfl hR rfl (by rw [dat_len _ _ _ _ (by omega)]; omega) U153 (by kernel_rfl)) (fun w' hM => Y.idxW _ (a + (r + 1) - 1) rfl rfl hR rfl (by rw [dat_len _ _ _ _ (by omega)]; omega) U153 (by kernel_rfl)) rfl $ H.only 17 rfl (by kernel_rfl) $ E.storeL (j := a + (r + 1) - 1) 0 y hM rfl rfl rfl (by kernel_rfl) rfl rfl (by rw [List.length_set]; rw [dat_len _ _ _ _ (by omega)]; omega) ?_
        intro w15 hM
        rw [dat_swap _ _ _ _ hr' (by omega) (by omega)] at hM
        have hS := hM.pick [] (by decide)
        refine H.back hS $ H.done (by kernel_rfl) $ X.outN $ X.next $ C.region $ Km rfl $ E.subN (b := 1) rfl rfl (by omega) rfl $ Kn rfl $ E.nil $ X.again1 r (Sub.cons (look_val rfl (by omega)) $ Sub.nil _) rfl ⟨hM, by omega, by omega⟩ (by omega)
      refine E.load rfl U155 rfl ((hM.sl 0 rfl).cell (by rw [dat_len _ _ _ _ (by omega)]; omega)) rfl ?_
      rw [dat_x _ _ _ _ hr' (by omega)]
      have hS := hM.pick [] (by decide)
      refine H.back hS $ H.only 9 rfl (by kernel_rfl) $ E.load rfl U155 rfl ((hM.sl 0 rfl).cell (by rw [dat_len _ _ _ _ (by omega)]; omega)) rfl ?_
      rw [dat_y _ _ _ _ hr' (by omega)]
      have hS := hM.pick [] (by decide)
      refine H.back hS $ Ku 14 rfl (by kernel_rfl) hS (Y.idxW _ (a + (r + 1)) rfl rfl hR rfl (by rw [dat_len _ _ _ _ (by omega)]; omega) U153 (by kernel_rfl)) (fun w' hM => Y.idxW _ (a + (r + 1)) rfl rfl hR rfl (by rw [dat_len _ _ _ _ (by omega)]; omega) U153 (by kernel_rfl)) rfl $ H.only 15 rfl (by kernel_rfl) $ E.storeL (j := a + (r + 1)) 0 lx[r] hM rfl rfl rfl (by kernel_rfl) rfl rfl (by rw [dat_len _ _ _ _ (by omega)]; omega) ?_
      intro w16 hM
      have hS := hM.pick [] (by decide)
      refine H.back hS $ Ku 16 rfl (by kernel_rfl) hS (Y.idxW _ (a + (r + 1) - 1) rfl rfl hR rfl (by rw [dat_len _ _ _ _ (by omega)]; omega) U153 (by kernel_rfl)) (fun w' hM => Y.idxW _ (a + (r + 1) - 1) rfl rfl hR rfl (by rw [dat_len _ _ _ _ (by omega)]; omega) U153 (by kernel_rfl)) rfl $ H.only 17 rfl (by kernel_rfl) $ E.storeL (j := a + (r + 1) - 1) 0 y hM rfl rfl rfl (by kernel_rfl) rfl rfl (by rw [List.length_set]; rw [dat_len _ _ _ _ (by omega)]; omega) ?_
      intro w17 hM
      rw [dat_swap _ _ _ _ hr' (by omega) (by omega)] at hM
      have hS := hM.pick [] (by decide)
      refine H.back hS $ H.done (by kernel_rfl) $ X.outN $ X.next $ C.region $ Km rfl $ E.subN (b := 1) rfl rfl (by omega) rfl $ Kn rfl $ E.nil $ X.again1 r (Sub.cons (look_val rfl (by omega)) $ Sub.nil _) rfl ⟨hM, by omega, by omega⟩ (by omega)
    obtain rfl : q = u := by omega
    refine Kx $ C.ret $ X.retT $ ret0 rfl ?_
    exact hM.to (Sym.two (by rw [hy, hmo]; unfold dat; simp only [List.append_assoc, List.cons_append]) rfl)
  have hX2 : 2 ≤ lx.length := by omega
  have hY2 : 2 ≤ ly.length := by omega
  obtain ⟨q, hq⟩ : ∃ q, q = (a + b) / 2 := ⟨_, rfl⟩
  refine Kk $ Kb $ Kf rfl $ E.addN rfl rfl (by omega) rfl $ E.conv rfl U3 U64 (IntWalk.u64_in _ (by omega)) rfl $ E.shr rfl rfl (by decide) (shr_u64 _) rfl $ E.conv rfl U64 U3 (IntWalk.i64_in _ (by omega)) rfl ?_
  rw [← hq]
  refine Kd rfl $ Kf rfl $ E.addN rfl rfl (by omega) rfl $ Kd rfl $ Kn rfl $ Kc rfl $ C.cut2 [(0, _), (1, _), (2, _), (3, _), (4, _), (18, _), (19, _)] rfl (fun (s0 : Nat) (t0 : Nat) => [(20, i64 (s0 : Int)), (21, i64 (t0 : Int))]) (fun (s0 : Nat) (t0 : Nat) w' => M w (fpU [Rg.sl ip 155 p (la ++ lx ++ ly ++ lc), Rg.pool P P]) w' [Rg.sl ip 155 p (la ++ lx ++ ly ++ lc), Rg.pool P P] ∧ a ≤ s0 ∧ s0 ≤ t0 ∧ t0 ≤ m ∧ (s0 = a ∨ q + m = s0 + b) ∧ (t0 = m ∨ t0 = q) ∧ q + m ≤ s0 + b ∧ t0 ≤ q) ?_ ?_
  ·
    refine Kb $ Kf rfl $ Kp rfl $ Ka $ C.cond' rfl (fun hC8 => ?_) (fun hC8 => ?_)
    ·
      refine Kb $ Kf rfl $ E.subN rfl rfl (by omega) rfl $ Kc rfl $ C.region $ Km rfl $ Kn rfl $ E.nil $ X.join2 (q + m - b) q (Sub.cons rfl $ S1 rfl) rfl ⟨hM, by omega, by omega, by omega, by omega, by omega, by omega, by omega⟩
    refine Kb $ Km rfl $ Kc rfl $ C.region $ Km rfl $ Kn rfl $ E.nil $ X.join2 a m (Sub.cons rfl $ S1 rfl) rfl ⟨hM, by omega, by omega, by omega, by omega, by omega, by omega, by omega⟩
  rintro s0 t0 w18 ⟨hM, ha0, hst, htm, hs0, ht0, hnb, htq⟩
  refine Kb $ Km rfl $ E.subN (b := 1) rfl rfl (by omega) rfl $ Kc rfl $ C.seq $ C.block $ C.loop2 [(0, _), (1, _), (2, _), (3, _), (4, _), (18, _), (19, _), (22, _)] rfl (fun (u : Nat) (t : Nat) => [(20, i64 (u : Int)), (21, i64 (t : Int))]) (fun (u : Nat) (t : Nat) w' => M w (fpU [Rg.sl ip 155 p (la ++ lx ++ ly ++ lc), Rg.pool P P]) w' [Rg.sl ip 155 p (la ++ lx ++ ly ++ lc), Rg.pool P P] ∧ s0 ≤ u ∧ u ≤ t ∧ t ≤ t0 ∧ (u = s0 ∨ W (la ++ lx ++ ly ++ lc) (u - 1) ≤ W (la ++ lx ++ ly ++ lc) (q + m - u)) ∧ (t = t0 ∨ W (la ++ lx ++ ly ++ lc) (q + m - 1 - t) < W (la ++ lx ++ ly ++ lc) t)) (fun (u : Nat) (t : Nat) => t - u) s0 t0 ?_ ?_ ?_
  · exact Sub.cons rfl $ S1 rfl
  · exact ⟨hM, Nat.le_refl _, hst, Nat.le_refl _, .inl rfl, .inl rfl⟩
  rintro u t w19 ⟨hM, hsu, hut, htt, hl1, hl2⟩
  refine C.seq $ Kb $ Kf rfl $ Kp rfl $ Ka $ C.cond' rfl (fun hC9 => ?_) (fun hC9 => ?_)
  ·
    obtain ⟨c, hc⟩ : ∃ c, c = (u + t) / 2 := ⟨_, rfl⟩
    have hw1 : W (la ++ lx ++ ly ++ lc) (q + m - 1 - c) = wi ((la ++ lx ++ ly ++ lc)[q + m - 1 - c]'(by rw [D_len]; omega)) := W_eq _
    have hw2 : W (la ++ lx ++ ly ++ lc) c = wi ((la ++ lx ++ ly ++ lc)[c]'(by rw [D_len]; omega)) := W_eq _
    refine Kk $ C.block $ Kb $ Kf rfl $ E.addN rfl rfl (by omega) rfl $ E.conv rfl U3 U64 (IntWalk.u64_in _ (by omega)) rfl $ E.shr rfl rfl (by decide) (shr_u64 _) rfl $ E.conv rfl U64 U3 (IntWalk.i64_in _ (by omega)) rfl ?_
    rw [← hc]
    refine Kc rfl $ C.seq $ C.drawnT 11 (by kernel_rfl) (by kernel_rfl) fun wh20 hwh20 => ?_
    have hM := hM.ext hwh20
    refine S.mv rfl rfl $ S.mv rfl rfl $ S.mv rfl rfl $ S.mv rfl rfl $ S.subN rfl rfl (by omega) rfl $ S.idx1 (k := (q + m - 1 - c)) rfl rfl (hM.sl 0 rfl) rfl (by rw [D_len]; omega) U153 (by kernel_rfl) rfl $ S.load rfl U155 rfl ((hM.sl 0 rfl).cell (by rw [D_len]; omega)) rfl $ S.mv rfl rfl $ S.mv rfl rfl $ S.idx1 (k := c) rfl rfl (hM.sl 0 rfl) rfl (by rw [D_len]; omega) U153 (by kernel_rfl) rfl $ S.load rfl U155 rfl ((hM.sl 0 rfl).cell (by rw [D_len]; omega)) rfl $ S.nil $ E.callv rfl rfl rfl (cmpw_ret (la ++ lx ++ ly ++ lc)[q + m - 1 - c] (la ++ lx ++ ly ++ lc)[c] P P _ (hM.pool 1 rfl) (hP _ (List.getElem_mem _)) (hP _ (List.getElem_mem _))) ?_
    rintro _ w5 ⟨rfl, x5⟩
    have hM := hM.ext x5
    have hcl := cmv_lt (wi (la ++ lx ++ ly ++ lc)[q + m - 1 - c]) (wi (la ++ lx ++ ly ++ lc)[c])
    refine Kp rfl $ E.not rfl rfl $ Ka $ C.cond rfl (fun hC10 => ?_) (fun hC10 => ?_)
    ·
      have hC10 : ¬ cmv (wi (la ++ lx ++ ly ++ lc)[q + m - 1 - c]) (wi (la ++ lx ++ ly ++ lc)[c]) < 0 := by simpa using hC10
      refine C.region $ Km rfl $ E.addN (b := 1) rfl rfl (by omega) rfl $ Kn rfl $ E.nil $ X.outN $ X.again2 (c + 1) t (Sub.cons rfl $ S1 rfl) rfl ⟨hM, by omega, by omega, htt, .inr (by rw [Nat.add_sub_cancel, show q + m - (c + 1) = q + m - 1 - c by omega, hw1, hw2]; omega), hl2⟩ (by omega)
    have hC10 : cmv (wi (la ++ lx ++ ly ++ lc)[q + m - 1 - c]) (wi (la ++ lx ++ ly ++ lc)[c]) < 0 := by simpa using hC10
    refine C.region $ Km rfl $ Kn rfl $ E.nil $ X.outN $ X.again2 u c (Sub.cons rfl $ S1 rfl) rfl ⟨hM, hsu, by omega, by omega, hl1, .inr (by rw [hw1, hw2]; omega)⟩ (by omega)
  obtain rfl : u = t := by omega
  obtain ⟨e, he⟩ : ∃ e, q = u + e := ⟨q - u, by omega⟩
  have k1 : u - a = 0 ∨ W (la ++ lx ++ ly ++ lc) (u - 1) = (lx.map wi).getD (u - a - 1) 0 := by
    by_cases h : u = a
    · left; omega
    right; rw [← W_x (la := la) (ly := ly) (lc := lc) (show u - a - 1 < lx.length by omega)]; congr 1; omega
  have k2 : e = ly.length ∨ W (la ++ lx ++ ly ++ lc) (q + m - u) = (ly.map wi).getD e 0 := by
    by_cases h : e = ly.length
    · left; omega
    right; rw [← W_y (la := la) (lx := lx) (lc := lc) (show e < ly.length by omega)]; congr 1; omega
  have k3 : e = 0 ∨ W (la ++ lx ++ ly ++ lc) (q + m - 1 - u) = (ly.map wi).getD (e - 1) 0 := by
    by_cases h : e = 0
    · left; omega
    right; rw [← W_y (la := la) (lx := lx) (lc := lc) (show e - 1 < ly.length by omega)]; congr 1; omega
  have k4 : u - a = lx.length ∨ W (la ++ lx ++ ly ++ lc) u = (lx.map wi).getD (u - a) 0 := by
    by_cases h : u - a = lx.length
    · left; omega
    right; rw [← W_x (la := la) (ly := ly) (lc := lc) (show u - a < lx.length by omega)]; congr 1; omega
  have hcut := sym_cut (s := u - a) (t := e) hsx hsy (by omega) (by omega) (by omega) (by omega)
  obtain ⟨x1, hx1⟩ : ∃ x1, x1 = lx.take (u - a) := ⟨_, rfl⟩
  obtain ⟨x2, hx2⟩ : ∃ x2, x2 = lx.drop (u - a) := ⟨_, rfl⟩
  obtain ⟨y1, hy1⟩ : ∃ y1, y1 = ly.take e := ⟨_, rfl⟩
  obtain ⟨y2, hy2⟩ : ∃ y2, y2 = ly.drop e := ⟨_, rfl⟩
  have hxs : lx = x1 ++ x2 := by rw [hx1, hx2, List.take_append_drop]
  have hys : ly = y1 ++ y2 := by rw [hy1, hy2, List.take_append_drop]
  have lx1 : x1.length = u - a := by rw [hx1, List.length_take]; omega
  have lx2 : x2.length = m - u := by rw [hx2, List.length_drop]; omega
  have ly1 : y1.length = e := by rw [hy1, List.length_take]; omega
  have ly2 : y2.length = b - m - e := by rw [hy2, List.length_drop]; omega
  have hs1 : Srt wi x1 := hx1 ▸ List.Pairwise.sublist (List.take_sublist _ _) hsx
  have hs2 : Srt wi x2 := hx2 ▸ List.Pairwise.sublist (List.drop_sublist _ _) hsx
  have hs3 : Srt wi y1 := hy1 ▸ List.Pairwise.sublist (List.take_sublist _ _) hsy
  have hs4 : Srt wi y2 := hy2 ▸ List.Pairwise.sublist (List.drop_sublist _ _) hsy
  rw [← hx1, ← hx2, ← hy1, ← hy2] at hcut
  have hPm : ∀ z, (z ∈ la ∨ z ∈ x1 ∨ z ∈ x2 ∨ z ∈ y1 ∨ z ∈ y2 ∨ z ∈ lc) → z ∈ P := fun z hz => hP z (by rw [hxs, hys]; simp only [List.mem_append]; rcases hz with h | h | h | h | h | h <;> simp [h])
  refine Kx $ Kb $ Kf rfl $ E.subN rfl rfl (by omega) rfl ?_
  rw [show q + m - u = m + e by omega]
  refine Kc rfl $ C.cut0 [(0, _), (1, _), (3, _), (4, _), (18, _), (20, _), (24, _)] rfl [] (fun w' => M w (fpU [Rg.sl ip 155 p (la ++ lx ++ ly ++ lc), Rg.pool P P]) w' [Rg.sl ip 155 p (la ++ x1 ++ y1 ++ x2 ++ y2 ++ lc), Rg.pool P P]) ?_ ?_
  ·
    refine C.chainE [(0, _), (1, _), (2, _), (3, _), (4, _), (18, _), (20, _), (24, _)] rfl [(185, .bool (decide (u < m ∧ m < m + e)))] ?_ ?_
    ·
      refine C.region $ Kf rfl $ Kp rfl $ Km rfl $ E.split 181 rfl (fun g181 => ?_) (fun g181 => ?_)
      ·
        try simp only [Ya, Yb, Yc, Yd, Ye, Yf] at g181
        refine Ko rfl $ Km rfl $ Ko rfl $ Km rfl $ Ko rfl $ Kp rfl $ Kr rfl $ E.nil $ X.join0 (Sub.cons (by exact leaf_d (by omega)) $ Sub.nil _) rfl rfl
      try simp only [Ya, Yb, Yc, Yd, Ye, Yf] at g181
      refine Kq rfl $ Kq rfl $ Kq rfl $ Kr rfl $ E.nil $ X.join0 (Sub.cons (by exact leaf_f (by omega)) $ Sub.nil _) rfl rfl
    refine C.cond' rfl (fun hC11 => ?_) (fun hC11 => ?_)
    ·
      have hM := hM.to (Sym.two (show _ = Rg.sl ip 155 p (la ++ x1 ++ x2 ++ y1 ++ (y2 ++ lc)) by rw [hxs, hys]; simp only [List.append_assoc]) rfl)
      refine C.region $ Kf rfl $ Kf rfl $ Km rfl $ E.call rfl rfl (rotate_ret p (la ++ x1) x2 y1 (y2 ++ lc) _ _ _ _ P _ hM.sep (by rw [List.length_append]; omega) (by rw [List.length_append]; omega) (by omega) (by omega) (by omega) (by simp only [List.length_append]; omega)) ?_
      rintro _ w6 m6
      have hM := hM.calls [0, 1] (by decide) rfl (by simp) m6
      refine E.nil $ X.join0  (Sub.nil _) rfl (hM.to (Sym.two (by simp only [List.append_assoc]) rfl))
    have hM := hM.to (Sym.two (show _ = Rg.sl ip 155 p (la ++ x1 ++ y1 ++ x2 ++ y2 ++ lc) by
      by_cases h : u < m
      · obtain rfl : y1 = [] := List.eq_nil_of_length_eq_zero (by omega)
        rw [hxs, hys]; simp only [List.append_assoc, List.nil_append]
      obtain rfl : x2 = [] := List.eq_nil_of_length_eq_zero (by omega)
      rw [hxs, hys]; simp only [List.append_assoc, List.nil_append]) rfl)
    refine C.skip $ X.join0  (Sub.nil _) rfl hM
  rintro  w23 hM
  refine C.cut0 [(0, _), (3, _), (4, _), (18, _), (24, _)] rfl [] (fun w' => M w (fpU [Rg.sl ip 155 p (la ++ lx ++ ly ++ lc), Rg.pool P P]) w' [Rg.sl ip 155 p (la ++ mrg wi x1 y1 ++ x2 ++ y2 ++ lc), Rg.pool P P]) ?_ ?_
  ·
    refine C.chainE [(0, _), (1, _), (3, _), (4, _), (18, _), (20, _), (24, _)] rfl [(199, .bool (decide (a < u ∧ u < q)))] ?_ ?_
    ·
      refine C.region $ Kf rfl $ Kp rfl $ Km rfl $ E.split 195 rfl (fun g195 => ?_) (fun g195 => ?_)
      ·
        try simp only [Ya, Yb, Yc, Yd, Ye, Yf] at g195
        refine Ko rfl $ Km rfl $ Ko rfl $ Km rfl $ Ko rfl $ Kp rfl $ Kr rfl $ E.nil $ X.join0 (Sub.cons (by exact leaf_d (by omega)) $ Sub.nil _) rfl rfl
      try simp only [Ya, Yb, Yc, Yd, Ye, Yf] at g195
      refine Kq rfl $ Kq rfl $ Kq rfl $ Kr rfl $ E.nil $ X.join0 (Sub.cons (by exact leaf_f (by omega)) $ Sub.nil _) rfl rfl
    refine C.cond' rfl (fun hC12 => ?_) (fun hC12 => ?_)
    ·
      have hM := hM.to (Sym.two (show _ = Rg.sl ip 155 p (la ++ x1 ++ y1 ++ (x2 ++ y2 ++ lc)) by simp only [List.append_assoc]) rfl)
      refine C.region $ Kf rfl $ Kf rfl $ Km rfl $ E.call rfl rfl (ih p la x1 y1 (x2 ++ y2 ++ lc) _ _ _ P _ hM.sep ha (by omega) (by omega) (by omega) (by omega) hs1 hs3 (fun z hz => hPm z (by simp only [List.mem_append] at hz; rcases hz with ((h | h) | h) | ((h | h) | h) <;> simp [h])) (by simp only [List.length_append]; omega) (by omega)) ?_
      rintro _ w7 m7
      have hM := hM.calls [0, 1] (by decide) rfl (by simp) m7
      refine E.nil $ X.join0  (Sub.nil _) rfl (hM.to (Sym.two (by simp only [List.append_assoc]) rfl))
    have hM := hM.to (Sym.two (show _ = Rg.sl ip 155 p (la ++ mrg wi x1 y1 ++ x2 ++ y2 ++ lc) by
      by_cases h : a < u
      · obtain rfl : y1 = [] := List.eq_nil_of_length_eq_zero (by omega)
        rw [mrg_nil, List.append_nil]
      obtain rfl : x1 = [] := List.eq_nil_of_length_eq_zero (by omega)
      rw [mrg, List.append_nil]) rfl)
    refine C.skip $ X.join0  (Sub.nil _) rfl hM
  rintro  w25 hM
  refine C.chainE [(0, _), (3, _), (4, _), (18, _), (24, _)] rfl [(213, .bool (decide (q < m + e ∧ m + e < b)))] ?_ ?_
  ·
    refine C.region $ Kf rfl $ Kp rfl $ Km rfl $ E.split 209 rfl (fun g209 => ?_) (fun g209 => ?_)
    ·
      try simp only [Ya, Yb, Yc, Yd, Ye, Yf] at g209
      refine Ko rfl $ Km rfl $ Ko rfl $ Km rfl $ Ko rfl $ Kp rfl $ Kr rfl $ E.nil $ X.join0 (Sub.cons (by exact leaf_d (by omega)) $ Sub.nil _) rfl rfl
    try simp only [Ya, Yb, Yc, Yd, Ye, Yf] at g209
    refine Kq rfl $ Kq rfl $ Kq rfl $ Kr rfl $ E.nil $ X.join0 (Sub.cons (by exact leaf_f (by omega)) $ Sub.nil _) rfl rfl
  have hml := mrg_len wi x1 y1
  refine C.cond' rfl (fun hC13 => ?_) (fun hC13 => ?_)
  ·
    have hM := hM.to (Sym.two (show _ = Rg.sl ip 155 p (la ++ mrg wi x1 y1 ++ x2 ++ y2 ++ lc) from rfl) rfl)
    refine C.region $ Kf rfl $ Kf rfl $ Km rfl $ E.call rfl rfl (ih p (la ++ mrg wi x1 y1) x2 y2 lc _ _ _ P _ hM.sep (by rw [List.length_append]; omega) (by omega) (by omega) (by omega) (by omega) hs2 hs4 (fun z hz => hPm z (by simp only [List.mem_append, mrg_mem] at hz; rcases hz with (((h | h | h) | h) | h) | h <;> simp [h])) (by simp only [List.length_append]; omega) (by omega)) ?_
    rintro _ w8 m8
    have hM := hM.calls [0, 1] (by decide) rfl (by simp) m8
    refine E.nil $ end0 rfl ?_
    exact hM.to (Sym.two (by rw [hcut]; simp only [List.append_assoc]) rfl)
  have hM := hM.to (Sym.two (show _ = Rg.sl ip 155 p (la ++ mrg wi x1 y1 ++ mrg wi x2 y2 ++ lc) by
    by_cases h : u < m
    · obtain rfl : y2 = [] := List.eq_nil_of_length_eq_zero (by omega)
      rw [mrg_nil, List.append_nil]
    obtain rfl : x2 = [] := List.eq_nil_of_length_eq_zero (by omega)
    rw [mrg, List.append_nil]) rfl)
  refine C.skip $ end0 rfl ?_
  exact hM.to (Sym.two (by rw [hcut]; simp only [List.append_assoc]) rfl)
theorem sym_ok : ∀ N, SymOk N
 | 0 => fun _ _ _ _ _ _ _ _ _ _ _ _ _ _ _ _ _ _ _ _ h => absurd h (Nat.not_lt_zero _)
 | N + 1 => fun p la lx ly lc a m b P w hs ha hm hb hx0 hy0 hsx hsy hP hlen hN => sym_step N (sym_ok N) p la lx ly lc a m b P w hs ha hm hb hx0 hy0 hsx hsy hP hlen hN
end Go.Proofs.YtajklleiifhipaaGreatDoor
