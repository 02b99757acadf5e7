/- prefix: ranges swapped; rotation. -/
import Derived.Test.YtdcgmkoonanpgaaPf19
namespace Go.Proofs.Ytdcgmkoonanpgaa
set_option linter.unusedSimpArgs false
set_option linter.unusedVariables false
open Go.RowKit Sym

/-- two ranges, of which i elements are swapped -/
def swp {α : Type} (A X B Y C : List α) (i : Nat) : List α := A ++ (Y.take i ++ X.drop i) ++ B ++ (X.take i ++ Y.drop i) ++ C
theorem swp_zero {α : Type} (A X B Y C : List α) : swp A X B Y C 0 = A ++ X ++ B ++ Y ++ C := by simp [swp]
theorem swp_end {α : Type} (A X B Y C : List α) (h : X.length = Y.length) : swp A X B Y C X.length = A ++ Y ++ B ++ X ++ C := by
  unfold swp
  rw [List.take_of_length_le (show Y.length ≤ X.length by omega), List.drop_of_length_le (Nat.le_refl _), List.take_of_length_le (Nat.le_refl _), List.drop_of_length_le (show Y.length ≤ X.length by omega)]; simp
theorem swp_len {α : Type} (A X B Y C : List α) (h : X.length = Y.length) {i : Nat} (hi : i ≤ X.length) : (swp A X B Y C i).length = A.length + X.length + B.length + Y.length + C.length := by unfold swp; simp; omega
theorem swp_form {α : Type} {A X B Y C : List α} (h : X.length = Y.length) {i : Nat} (hi : i < X.length) : swp A X B Y C i = (A ++ Y.take i) ++ X[i] :: ((X.drop (i + 1) ++ B ++ X.take i) ++ Y[i] :: (Y.drop (i + 1) ++ C)) := by
  unfold swp
  rw [List.drop_eq_getElem_cons hi, List.drop_eq_getElem_cons (show i < Y.length by omega)]
  simp only [List.append_assoc, List.cons_append]
theorem swp_next {α : Type} {A X B Y C : List α} (h : X.length = Y.length) {i : Nat} (hi : i < X.length) : swp A X B Y C (i + 1) = (A ++ Y.take i) ++ Y[i] :: ((X.drop (i + 1) ++ B ++ X.take i) ++ X[i] :: (Y.drop (i + 1) ++ C)) := by
  unfold swp
  rw [← List.take_append_getElem hi, ← List.take_append_getElem (show i < Y.length by omega)]
  simp only [List.append_assoc, List.cons_append, List.nil_append]
theorem two_x {α : Type} (P Q R : List α) (x y : α) {j : Nat} (e : j = P.length) (hj : j < (P ++ x :: (Q ++ y :: R)).length) : (P ++ x :: (Q ++ y :: R))[j] = x := by
  subst e; simp
theorem two_y {α : Type} (P Q R : List α) (x y : α) {j : Nat} (e : j = P.length + 1 + Q.length) (hj : j < (P ++ x :: (Q ++ y :: R)).length) : (P ++ x :: (Q ++ y :: R))[j] = y := by
  have : (P ++ x :: (Q ++ y :: R))[j]? = some y := by
    rw [List.getElem?_append_right (by omega), e, show P.length + 1 + Q.length - P.length = Q.length + 1 by omega, List.getElem?_cons_succ, List.getElem?_append_right (Nat.le_refl _), Nat.sub_self]; rfl
  rw [List.getElem?_eq_getElem hj, Option.some.injEq] at this; exact this
theorem two_set {α : Type} (P Q R : List α) (x y : α) {i j : Nat} (e : i = P.length) (e2 : j = P.length + 1 + Q.length) : ((P ++ x :: (Q ++ y :: R)).set i y).set j x = P ++ y :: (Q ++ x :: R) := by
  subst e e2
  rw [List.set_append_right _ _ (Nat.le_refl _), Nat.sub_self, List.set_cons_zero, List.set_append_right _ _ (by omega), show P.length + 1 + Q.length - P.length = Q.length + 1 by omega, List.set_cons_succ, List.set_append_right _ _ (Nat.le_refl _), Nat.sub_self]; rfl
theorem swp_x {α : Type} {A X B Y C : List α} (h : X.length = Y.length) {i j : Nat} (hi : i < X.length) (e : j = A.length + i) (hj : j < (swp A X B Y C i).length) : (swp A X B Y C i)[j] = X[i] := by
  have hf := swp_form (A := A) (B := B) (C := C) h hi
  have := two_x (A ++ Y.take i) (X.drop (i + 1) ++ B ++ X.take i) (Y.drop (i + 1) ++ C) X[i] Y[i] (j := j) (by simp; omega) (by rw [← hf]; exact hj)
  rw [← this]; congr 1
theorem swp_y {α : Type} {A X B Y C : List α} (h : X.length = Y.length) {i j : Nat} (hi : i < X.length) (e : j = A.length + X.length + B.length + i) (hj : j < (swp A X B Y C i).length) : (swp A X B Y C i)[j] = Y[i] := by
  have hf := swp_form (A := A) (B := B) (C := C) h hi
  have := two_y (A ++ Y.take i) (X.drop (i + 1) ++ B ++ X.take i) (Y.drop (i + 1) ++ C) X[i] Y[i] (j := j) (by simp; omega) (by rw [← hf]; exact hj)
  rw [← this]; congr 1
theorem swp_step {α : Type} {A X B Y C : List α} (h : X.length = Y.length) {i j k : Nat} (hi : i < X.length) (e : j = A.length + i) (e2 : k = A.length + X.length + B.length + i) : ((swp A X B Y C i).set j Y[i]).set k X[i] = swp A X B Y C (i + 1) := by
  rw [swp_form h hi, swp_next h hi]
  exact two_set _ _ _ _ _ (by simp; omega) (by simp; omega)
set_option maxHeartbeats 1000000 in
theorem swap_ret (p : Value) (la lx lb ly lc : List It) (a b n : Nat) (fv : Value) (P : List It) (w : World) (hs : Sep w [Rg.sl ip 97 p (la ++ lx ++ lb ++ ly ++ lc), Rg.pool P P]) (ha : a = la.length) (hb : b = la.length + lx.length + lb.length) (hn : n = lx.length) (hXY : lx.length = ly.length) (hlen : (la ++ lx ++ lb ++ ly ++ lc).length ≤ 1000000) :
    Ret Try.prog 104 #[p, i64 a, i64 b, i64 n, fv] w fun v w' => M w (fpU [Rg.sl ip 97 p (la ++ lx ++ lb ++ ly ++ lc), Rg.pool P P]) w' [Rg.sl ip 97 p (la ++ ly ++ lb ++ lx ++ lc), Rg.pool P P] := by
  have hM := M.startS hs
  refine enter Try.func104 rfl (by kernel_rfl) Try.ntmps104 rfl ?_
  refine C.seq <| C.region <| E.asg rfl rfl <| E.nil <| X.next <| C.block <| ?_
  subst ha hb hn
  simp only [List.length_append] at hlen
  rw [← swp_zero] at hM

  refine C.loop1 [(0, _), (1, _), (2, _), (3, _)] rfl (fun (i : Nat) => [(10, i64 i)]) (fun (i : Nat) w' => M w (fpU [Rg.sl ip 97 p (la ++ lx ++ lb ++ ly ++ lc), Rg.pool P P]) w' [Rg.sl ip 97 p (swp la lx lb ly lc i), Rg.pool P P] ∧ i ≤ lx.length) (fun (i : Nat) => lx.length - i) 0 ?_ ?_ ?_
  · exact Sub.cons rfl <| Sub.nil _
  · exact ⟨hM, Nat.zero_le _⟩
  rintro i w0 ⟨hM, hi⟩
  refine C.seq <| C.seq <| C.region <| E.mv rfl rfl <| E.mv rfl rfl <| E.bin rfl rfl rfl rfl <| E.nil <| X.next <| ?_
  refine C.cond' rfl (fun hC0 => ?_) (fun hC0 => ?_)
  ·
    have hi' : i < lx.length := by omega
    refine C.skip <| X.next <| C.seq <| C.block <| C.heldM hM [] (by decide) (by kernel_rfl) fun wh1 hM hS => ?_
    have hR := hM.sl 0 rfl
    refine H.take 0 rfl rfl (by kernel_rfl) (by kernel_rfl) (by kernel_rfl) hS (fun w' hM => Y.mv rfl) rfl ?_
    refine H.take 1 rfl rfl (by kernel_rfl) (by kernel_rfl) (by kernel_rfl) hS (fun w' hM => Y.mv rfl) rfl ?_
    refine H.take 2 rfl rfl (by kernel_rfl) (by kernel_rfl) (by kernel_rfl) hS (fun w' hM => Y.mv rfl) rfl ?_
    refine H.take 3 rfl rfl (by kernel_rfl) (by kernel_rfl) (by kernel_rfl) hS (fun w' hM => Y.addN rfl rfl (by omega)) rfl ?_
    refine H.take 4 rfl rfl (by kernel_rfl) (by kernel_rfl) (by kernel_rfl) hS (fun w' hM => Y.mv rfl) rfl ?_
    refine H.take 5 rfl rfl (by kernel_rfl) (by kernel_rfl) (by kernel_rfl) hS (fun w' hM => Y.mv rfl) rfl ?_
    refine H.take 6 rfl rfl (by kernel_rfl) (by kernel_rfl) (by kernel_rfl) hS (fun w' hM => Y.mv rfl) rfl ?_
    refine H.take 7 rfl rfl (by kernel_rfl) (by kernel_rfl) (by kernel_rfl) hS (fun w' hM => Y.addN rfl rfl (by omega)) rfl ?_
    refine H.take 8 rfl rfl (by kernel_rfl) (by kernel_rfl) (by kernel_rfl) hS (fun w' hM => Y.mv rfl) rfl ?_
    refine H.take 9 rfl rfl (by kernel_rfl) (by kernel_rfl) (by kernel_rfl) hS (fun w' hM => Y.mv rfl) rfl ?_
    refine H.take 10 rfl rfl (by kernel_rfl) (by kernel_rfl) (by kernel_rfl) hS (fun w' hM => Y.mv rfl) rfl ?_
    refine H.take 11 rfl rfl (by kernel_rfl) (by kernel_rfl) (by kernel_rfl) hS (fun w' hM => Y.addN rfl rfl (by omega)) rfl ?_
    refine H.takeV 12 rfl rfl (by kernel_rfl) (by kernel_rfl) (by kernel_rfl) hS (Y.idxW _ ((la.length + lx.length + lb.length + i)) rfl rfl hR rfl (by rw [swp_len la lx lb ly lc hXY (by omega)]; omega) Try.underlying95 (by kernel_rfl)) (fun w' hM => Y.idxW _ ((la.length + lx.length + lb.length + i)) rfl rfl hR rfl (by rw [swp_len la lx lb ly lc hXY (by omega)]; omega) Try.underlying95 (by kernel_rfl)) rfl ?_
    refine H.take 14 rfl rfl (by kernel_rfl) (by kernel_rfl) (by kernel_rfl) hS (fun w' hM => Y.mv rfl) rfl ?_
    refine H.take 15 rfl rfl (by kernel_rfl) (by kernel_rfl) (by kernel_rfl) hS (fun w' hM => Y.mv rfl) rfl ?_
    refine H.take 16 rfl rfl (by kernel_rfl) (by kernel_rfl) (by kernel_rfl) hS (fun w' hM => Y.mv rfl) rfl ?_
    refine H.take 17 rfl rfl (by kernel_rfl) (by kernel_rfl) (by kernel_rfl) hS (fun w' hM => Y.addN rfl rfl (by omega)) rfl ?_
    refine H.takeV 18 rfl rfl (by kernel_rfl) (by kernel_rfl) (by kernel_rfl) hS (Y.idxW _ ((la.length + i)) rfl rfl hR rfl (by rw [swp_len la lx lb ly lc hXY (by omega)]; omega) Try.underlying95 (by kernel_rfl)) (fun w' hM => Y.idxW _ ((la.length + i)) rfl rfl hR rfl (by rw [swp_len la lx lb ly lc hXY (by omega)]; omega) Try.underlying95 (by kernel_rfl)) rfl ?_
    refine H.two 13 19 rfl rfl (by kernel_rfl) ?_ ?_
    ·
      refine E.load rfl Try.underlying97 rfl ((hM.sl 0 rfl).cell (by rw [swp_len la lx lb ly lc hXY (by omega)]; omega)) rfl ?_
      rw [swp_y hXY hi' rfl]
      have hS := hM.pick [] (by decide)
      refine H.back hS ?_
      refine H.only 19 rfl (by kernel_rfl) ?_
      refine E.load rfl Try.underlying97 rfl ((hM.sl 0 rfl).cell (by rw [swp_len la lx lb ly lc hXY (by omega)]; omega)) rfl ?_
      rw [swp_x hXY hi' rfl]
      have hS := hM.pick [] (by decide)
      refine H.back hS ?_
      refine H.takeV 20 rfl rfl (by kernel_rfl) (by kernel_rfl) (by kernel_rfl) hS (Y.idxW _ ((la.length + i)) rfl rfl hR rfl (by rw [swp_len la lx lb ly lc hXY (by omega)]; omega) Try.underlying95 (by kernel_rfl)) (fun w' hM => Y.idxW _ ((la.length + i)) rfl rfl hR rfl (by rw [swp_len la lx lb ly lc hXY (by omega)]; omega) Try.underlying95 (by kernel_rfl)) rfl ?_
      refine H.only 21 rfl (by kernel_rfl) ?_
      refine E.storeL (j := (la.length + i)) 0 ly[i] hM rfl rfl rfl (by kernel_rfl) rfl rfl (by rw [swp_len la lx lb ly lc hXY (by omega)]; omega) ?_
      intro w2 hM
      try dsimp only [List.nil_append, List.cons_append, List.set_cons_zero, List.set_cons_succ, repl] at hM
      have hS := hM.pick [] (by decide)
      refine H.back hS ?_
      refine H.takeV 22 rfl rfl (by kernel_rfl) (by kernel_rfl) (by kernel_rfl) hS (Y.idxW _ ((la.length + lx.length + lb.length + i)) rfl rfl hR rfl (by rw [swp_len la lx lb ly lc hXY (by omega)]; omega) Try.underlying95 (by kernel_rfl)) (fun w' hM => Y.idxW _ ((la.length + lx.length + lb.length + i)) rfl rfl hR rfl (by rw [swp_len la lx lb ly lc hXY (by omega)]; omega) Try.underlying95 (by kernel_rfl)) rfl ?_
      refine H.only 23 rfl (by kernel_rfl) ?_
      refine E.storeL (j := (la.length + lx.length + lb.length + i)) 0 lx[i] hM rfl rfl rfl (by kernel_rfl) rfl rfl (by rw [List.length_set]; rw [swp_len la lx lb ly lc hXY (by omega)]; omega) ?_
      intro w3 hM
      try dsimp only [List.nil_append, List.cons_append, List.set_cons_zero, List.set_cons_succ, repl] at hM
      rw [swp_step hXY hi' rfl rfl] at hM
      have hS := hM.pick [] (by decide)
      refine H.back hS ?_
      refine H.done (by kernel_rfl) ?_
      refine X.outN <| X.next <| C.region <| E.mv rfl rfl <| ?_
      refine E.addN (b := 1) rfl rfl (by omega) rfl ?_

      refine E.asg rfl rfl <| E.nil <| X.again1 (i + 1) (Sub.cons rfl <| Sub.nil _) rfl ⟨hM, by omega⟩ (by omega)
    ·
      refine E.load rfl Try.underlying97 rfl ((hM.sl 0 rfl).cell (by rw [swp_len la lx lb ly lc hXY (by omega)]; omega)) rfl ?_
      rw [swp_x hXY hi' rfl]
      have hS := hM.pick [] (by decide)
      refine H.back hS ?_
      refine H.only 13 rfl (by kernel_rfl) ?_
      refine E.load rfl Try.underlying97 rfl ((hM.sl 0 rfl).cell (by rw [swp_len la lx lb ly lc hXY (by omega)]; omega)) rfl ?_
      rw [swp_y hXY hi' rfl]
      have hS := hM.pick [] (by decide)
      refine H.back hS ?_
      refine H.takeV 20 rfl rfl (by kernel_rfl) (by kernel_rfl) (by kernel_rfl) hS (Y.idxW _ ((la.length + i)) rfl rfl hR rfl (by rw [swp_len la lx lb ly lc hXY (by omega)]; omega) Try.underlying95 (by kernel_rfl)) (fun w' hM => Y.idxW _ ((la.length + i)) rfl rfl hR rfl (by rw [swp_len la lx lb ly lc hXY (by omega)]; omega) Try.underlying95 (by kernel_rfl)) rfl ?_
      refine H.only 21 rfl (by kernel_rfl) ?_
      refine E.storeL (j := (la.length + i)) 0 ly[i] hM rfl rfl rfl (by kernel_rfl) rfl rfl (by rw [swp_len la lx lb ly lc hXY (by omega)]; omega) ?_
      intro w4 hM
      try dsimp only [List.nil_append, List.cons_append, List.set_cons_zero, List.set_cons_succ, repl] at hM
      have hS := hM.pick [] (by decide)
      refine H.back hS ?_
      refine H.takeV 22 rfl rfl (by kernel_rfl) (by kernel_rfl) (by kernel_rfl) hS (Y.idxW _ ((la.length + lx.length + lb.length + i)) rfl rfl hR rfl (by rw [swp_len la lx lb ly lc hXY (by omega)]; omega) Try.underlying95 (by kernel_rfl)) (fun w' hM => Y.idxW _ ((la.length + lx.length + lb.length + i)) rfl rfl hR rfl (by rw [swp_len la lx lb ly lc hXY (by omega)]; omega) Try.underlying95 (by kernel_rfl)) rfl ?_
      refine H.only 23 rfl (by kernel_rfl) ?_
      refine E.storeL (j := (la.length + lx.length + lb.length + i)) 0 lx[i] hM rfl rfl rfl (by kernel_rfl) rfl rfl (by rw [List.length_set]; rw [swp_len la lx lb ly lc hXY (by omega)]; omega) ?_
      intro w5 hM
      try dsimp only [List.nil_append, List.cons_append, List.set_cons_zero, List.set_cons_succ, repl] at hM
      rw [swp_step hXY hi' rfl rfl] at hM
      have hS := hM.pick [] (by decide)
      refine H.back hS ?_
      refine H.done (by kernel_rfl) ?_
      refine X.outN <| X.next <| C.region <| E.mv rfl rfl <| ?_
      refine E.addN (b := 1) rfl rfl (by omega) rfl ?_

      refine E.asg rfl rfl <| E.nil <| X.again1 (i + 1) (Sub.cons rfl <| Sub.nil _) rfl ⟨hM, by omega⟩ (by omega)
  ·
    obtain rfl : i = lx.length := by omega
    rw [swp_end la lx lb ly lc hXY] at hM
    refine C.exit <| X.exitT <| X.exitT <| X.outE <| end0 rfl ?_
    exact hM

end Go.Proofs.Ytdcgmkoonanpgaa
