/- barscanref34: lengths as symbols of the length code. -/
import Derived.Test.YtcmgbjmcklfkcaaDoorDf33G
namespace Go.Proofs.YtcmgbjmcklfkcaaDoor
set_option linter.unusedSimpArgs false
set_option linter.unusedVariables false
open Go.RowKit Sym

theorem elem_Tref34_item : Elem Tryd.prog 96 3 24 := elem_of (z := .agg #[.int .i64 0, .int .i64 0, .int .i64 0]) (by kernel_rfl) rfl (by decide)
open Df (Stp)
abbrev esr (x : Stp) : List Value := [i64 (x.1 : Int), i64 (x.2.2 : Int), i64 (x.2.1 : Int)]
theorem esr_one (a : Stp) : ∀ x ∈ esr a, x.oneCell' = true := ones rfl <| ones rfl <| ones rfl <| ones_nil
namespace Df
def rs1 (x m : Nat) : List Stp := if x = 0 then zer m else eqr x m
def rs3 (x m : Nat) : List Stp := if x = 0 then List.replicate m (0, 0, 0) else eqr x m
theorem rend_one {l : List Nat} {a : Nat} (h : a < l.length) : ren l (l.getD a 0) (l.length - (a + 1)) (a + 1) = rend l a := by
  unfold rend
  obtain ⟨f, hf⟩ : ∃ f, l.length - a = f + 1 := ⟨l.length - a - 1, by omega⟩
  rw [hf, ren, if_pos ⟨h, rfl⟩, show l.length - (a + 1) = f by omega]
theorem rs1_big {x m : Nat} (h : x = 0 ∧ 11 ≤ m) : rs1 x m = (18, min m 138 - 11, 7) :: rs1 x (m - min m 138) := by unfold rs1; rw [if_pos h.1, if_pos h.1, zer_big h.2]
theorem rs1_mid {x m : Nat} (h : ¬ (x = 0 ∧ 11 ≤ m)) (h2 : x = 0 ∧ 3 ≤ m) : rs1 x m = (17, m - 3, 3) :: rs3 x 0 := by unfold rs1 rs3; rw [if_pos h2.1, if_pos h2.1, zer_mid (by omega) h2.2]; rfl
theorem rs1_few {x m : Nat} (h : ¬ (x = 0 ∧ 3 ≤ m)) : rs1 x m = rs3 x m := by
  unfold rs1 rs3
  by_cases c : x = 0
  · rw [if_pos c, if_pos c, zer_few (by omega)]
  · rw [if_neg c, if_neg c]
theorem rs3_big {x m : Nat} (h : 0 < x ∧ 3 ≤ m) : rs3 x m = (16, min m 6 - 3, 2) :: rs3 x (m - min m 6) := by unfold rs3; rw [if_neg (by omega), if_neg (by omega), eqr_big h.2]
theorem rs3_few {x m : Nat} (h : ¬ (0 < x ∧ 3 ≤ m)) : rs3 x m = List.replicate m (x, 0, 0) := by
  unfold rs3
  by_cases c : x = 0
  · rw [if_pos c, c]
  · rw [if_neg c, eqr_few (by omega)]
theorem sq_rs {l : List Nat} {a : Nat} (h : a < l.length) : sq l a = (if 0 < l.getD a 0 then (l.getD a 0, 0, 0) :: rs1 (l.getD a 0) (rend l a - a - 1) else rs1 (l.getD a 0) (rend l a - a)) ++ sq l (rend l a) := by
  rw [sq_on h]
  by_cases c : l.getD a 0 = 0
  · rw [if_pos c, if_neg (by omega), rs1, if_pos c]
  · rw [if_neg c, if_pos (by omega), rs1, if_neg c]; rfl
end Df
set_option maxHeartbeats 4000000 in
set_option maxRecDepth 4000 in
theorem runs_ret (p : Value) (l : List Nat) (w : World) (hr : RdL i64 w p (nz l)) (hl : l.length ≤ 1000) :
    Ret Tryd.prog 57 #[p] w fun v w' => M w Nn w' [Rg.slF esr 3 96 v (Df.sq l 0)] := by
  have hM := M.start w
  refine enter Tryd.func57 rfl (by kernel_rfl) Tryd.ntmps57 rfl ?_
  refine C.seq <| C.region <| E.asg rfl rfl <| E.nil <| X.next <| C.seq <| C.region <| E.asg rfl rfl <| E.nil <| X.next <| C.seq <| C.region <| E.asg rfl rfl <| E.nil <| X.next <| C.seq <| C.block <| ?_
  have hM := hM.nilF esr 3 96
  try dsimp only [List.nil_append, List.cons_append, List.set_cons_zero, List.set_cons_succ, repl] at hM
  have hnl := nz_len l

  refine C.loop3 [(0, _)] rfl (fun (a : Nat) (ys : (List Stp)) (vo : Value) => [(3, vo), (4, i64 a)]) (fun (a : Nat) (ys : (List Stp)) (vo : Value) w' => M w (Nn) w' [Rg.slF esr 3 96 vo ys] ∧ a ≤ l.length ∧ Df.sq l 0 = ys ++ Df.sq l a ∧ ys.length ≤ a) (fun (a : Nat) (ys : (List Stp)) (vo : Value) => l.length - a) 0 [] (.slice none 0 0) ?_ ?_ ?_
  · exact Sub.cons rfl <| Sub.cons rfl <| Sub.nil _
  · exact ⟨hM, Nat.zero_le _, rfl, Nat.le_refl _⟩
  rintro a ys vo w0 ⟨hM, ha, hsq, hyl⟩
  refine C.seq <| C.seq <| C.region <| E.mv rfl rfl <| E.mv rfl rfl <| ?_
  refine E.lenv rfl (Rd.shape (hM.arg0 hr)) Tryd.underlying29 rfl ?_
  rw [nz_len]
  refine E.bin rfl rfl rfl rfl <| E.nil <| X.next <| ?_
  refine C.cond' rfl (fun hC0 => ?_) (fun hC0 => ?_)
  ·
    have ha' : a < l.length := by omega
    rw [Df.sq_rs ha'] at hsq
    obtain ⟨hr1, hr2, hr3⟩ := Df.rend_spec ha'
    refine C.skip <| X.next <| C.block <| C.seq <| C.region <| E.asg rfl rfl <| E.nil <| X.next <| C.seq <| C.block <| ?_

    refine C.loop1 [(0, _), (3, _), (4, _)] rfl (fun (n : Nat) => [(5, i64 n)]) (fun (n : Nat) w' => M w (Nn) w' [Rg.slF esr 3 96 vo ys] ∧ 1 ≤ n ∧ a + n ≤ l.length ∧ Df.ren l (l.getD a 0) (l.length - (a + n)) (a + n) = Df.rend l a) (fun (n : Nat) => l.length - (a + n)) 1 ?_ ?_ ?_
    · exact Sub.cons rfl <| Sub.nil _
    · exact ⟨hM, Nat.le_refl _, ha', Df.rend_one ha'⟩
    rintro n w1 ⟨hM, hn1, hn2, hn⟩
    refine C.seq <| ?_

    refine C.chainQ [(0, _), (3, _), (4, _), (5, _)] rfl [(31, .bool (decide (a + n < l.length ∧ l.getD (a + n) 0 = l.getD a 0)))] ?_ ?_
    ·
      refine C.drawn (by kernel_rfl) (by kernel_rfl) <| Q.mv rfl rfl <| Q.mv rfl rfl <| ?_
      refine Q.addN (a := a) (b := n) rfl rfl (by omega) rfl ?_
      refine Q.mv rfl rfl <| ?_
      refine Q.lenv rfl (Rd.shape (hM.arg0 hr)) Tryd.underlying29 rfl ?_
      rw [nz_len]
      refine Q.bin rfl rfl rfl rfl <| Q.mv rfl rfl <| ?_
      refine Q.split 19 rfl (fun g19 => ?_) (fun g19 => ?_)
      ·
        try simp only [decide_eq_true_eq, decide_eq_false_iff_not, ne_eq, Decidable.not_not, Bool.not_eq_true', Bool.not_eq_false'] at g19
        refine Q.on rfl rfl (Q.mv rfl rfl ?_)
        refine Q.on rfl rfl (Q.mv rfl rfl ?_)
        refine Q.on rfl rfl (Q.mv rfl rfl ?_)
        refine Q.on rfl rfl (Q.addN (a := a) (b := n) rfl rfl (by omega) rfl ?_)
        refine Q.on rfl rfl (Q.idx1 (k := a + n) rfl rfl (hM.arg0 hr) rfl (by omega) Tryd.underlying29 (by kernel_rfl) rfl ?_)
        refine Q.on rfl rfl (Q.load rfl Tryd.underlying3 rfl ((hM.arg0 hr).cellA rfl (by omega)) rfl ?_)
        rw [nz_gd]
        refine Q.on rfl rfl (Q.mv rfl rfl ?_)
        refine Q.on rfl rfl (Q.mv rfl rfl ?_)
        refine Q.on rfl rfl (Q.idx1 (k := a) rfl rfl (hM.arg0 hr) rfl (by omega) Tryd.underlying29 (by kernel_rfl) rfl ?_)
        refine Q.on rfl rfl (Q.load rfl Tryd.underlying3 rfl ((hM.arg0 hr).cellA rfl (by omega)) rfl ?_)
        rw [nz_gd]
        refine Q.on rfl rfl (Q.bin rfl rfl rfl rfl ?_)
        refine Q.pick rfl rfl rfl <| Q.nil <| fun w2 hx2 => ?_
        refine X.join0 (Sub.cons (by (first | exact leaf_f (by omega) | exact leaf_t (by omega) | exact leaf_d (by omega) | exact leaf_f (by first | (simp [*] <;> fail) | omega) | exact leaf_t (by first | (simp [*] <;> fail) | omega) | exact leaf_d (by first | (simp [*] <;> fail) | omega) | exact leaf_f (by (first | omega | ((try simp only [decide_eq_true_eq, decide_eq_false_iff_not, Bool.not_eq_true', Bool.not_eq_false'] at *); first | omega | (simp_all <;> fail) | (simp_all; omega)))) | exact leaf_t (by (first | omega | ((try simp only [decide_eq_true_eq, decide_eq_false_iff_not, Bool.not_eq_true', Bool.not_eq_false'] at *); first | omega | (simp_all <;> fail) | (simp_all; omega)))) | exact leaf_d (by (first | omega | ((try simp only [decide_eq_true_eq, decide_eq_false_iff_not, Bool.not_eq_true', Bool.not_eq_false'] at *); first | omega | (simp_all <;> fail) | (simp_all; omega)))))) <| Sub.nil _) rfl hx2
      ·
        try simp only [decide_eq_true_eq, decide_eq_false_iff_not, ne_eq, Decidable.not_not, Bool.not_eq_true', Bool.not_eq_false'] at g19
        refine Q.off rfl rfl rfl rfl <| Q.off rfl rfl rfl rfl <| Q.off rfl rfl rfl rfl <| Q.off rfl rfl rfl rfl <| Q.off rfl rfl rfl rfl <| Q.off rfl rfl rfl rfl <| Q.off rfl rfl rfl rfl <| Q.off rfl rfl rfl rfl <| Q.off rfl rfl rfl rfl <| Q.off rfl rfl rfl rfl <| Q.off rfl rfl rfl rfl <| Q.pick rfl rfl rfl <| Q.nil <| fun w3 hx3 => ?_
        refine X.join0 (Sub.cons (by (first | exact leaf_f (by omega) | exact leaf_t (by omega) | exact leaf_d (by omega) | exact leaf_f (by first | (simp [*] <;> fail) | omega) | exact leaf_t (by first | (simp [*] <;> fail) | omega) | exact leaf_d (by first | (simp [*] <;> fail) | omega) | exact leaf_f (by (first | omega | ((try simp only [decide_eq_true_eq, decide_eq_false_iff_not, Bool.not_eq_true', Bool.not_eq_false'] at *); first | omega | (simp_all <;> fail) | (simp_all; omega)))) | exact leaf_t (by (first | omega | ((try simp only [decide_eq_true_eq, decide_eq_false_iff_not, Bool.not_eq_true', Bool.not_eq_false'] at *); first | omega | (simp_all <;> fail) | (simp_all; omega)))) | exact leaf_d (by (first | omega | ((try simp only [decide_eq_true_eq, decide_eq_false_iff_not, Bool.not_eq_true', Bool.not_eq_false'] at *); first | omega | (simp_all <;> fail) | (simp_all; omega)))))) <| Sub.nil _) rfl hx3
    intro w4 hx4
    have hM := hM.ext hx4
    refine C.cond' rfl (fun hC1 => ?_) (fun hC1 => ?_)
    ·
      have hn' : Df.ren l (l.getD a 0) (l.length - (a + (n + 1))) (a + (n + 1)) = Df.rend l a := by
        rw [← hn, show l.length - (a + n) = l.length - (a + (n + 1)) + 1 by omega, Df.ren, if_pos hC1]; rfl
      refine C.skip <| X.next <| C.block <| C.region <| E.mv rfl rfl <| ?_
      refine E.addN (a := n) (b := 1) rfl rfl (by omega) rfl ?_

      refine E.asg rfl rfl <| E.nil <| X.outN <| X.again1 (n + 1) (Sub.cons rfl <| Sub.nil _) rfl ⟨hM, by omega, by omega, hn'⟩ (by omega)
    ·
      have hee : Df.rend l a = a + n := by
        rw [← hn]
        cases h : l.length - (a + n) with
        | zero => rfl
        | succ f => rw [Df.ren, if_neg hC1]
      obtain ⟨e, hem⟩ : ∃ e, e = a + n := ⟨_, rfl⟩
      rw [hee, ← hem] at hsq hr1 hr2 hr3
      rw [show e - a = n by omega] at hsq
      have hle := hr3 (e - 1) (by omega) (by omega)
      refine C.exit <| X.exitT <| X.exitT <| X.outE <| X.next <| C.seq <| C.region <| E.mv rfl rfl <| E.mv rfl rfl <| ?_
      refine E.addN (a := a) (b := n) rfl rfl (by omega) rfl ?_
      rw [← hem]
      refine E.asg rfl rfl <| E.nil <| X.next <| C.seq <| C.region <| E.mv rfl rfl <| E.mv rfl rfl <| ?_
      refine E.subN (a := e) (b := 1) rfl rfl (by omega) rfl ?_
      refine E.get (k := e - 1) rfl rfl (hM.arg0 hr) rfl (by omega) Tryd.underlying29 (by kernel_rfl) Tryd.underlying3 rfl rfl rfl ?_
      rw [nz_gd, hle]
      refine E.asg rfl rfl <| E.nil <| X.next <| ?_

      refine C.cut3 [(0, _), (4, _), (6, _)] rfl (fun (m : Nat) (ys : (List Stp)) (vo : Value) => [(3, vo), (5, i64 m)]) (fun (m : Nat) (ys : (List Stp)) (vo : Value) w' => M w (Nn) w' [Rg.slF esr 3 96 vo ys] ∧ Df.sq l 0 = ys ++ (Df.rs1 (l.getD a 0) m ++ Df.sq l e) ∧ ys.length + m ≤ e) ?_ ?_
      ·
        refine C.seq <| C.region <| E.mv rfl rfl <| E.bin rfl rfl rfl rfl <| E.nil <| X.next <| ?_
        refine C.cond' rfl (fun hC2 => ?_) (fun hC2 => ?_)
        ·
          rw [if_pos (by omega)] at hsq
          refine C.seq <| C.region <| E.mv rfl rfl <| E.mv rfl rfl <| ?_
          refine E.buildC (cs := [_, _, _]) [.int .i64 0, .int .i64 0, .int .i64 0] [0] rfl rfl (by kernel_rfl) rfl ?_
          refine E.pushFM 0 (l.getD a 0, 0, 0) hM rfl rfl rfl Tryd.underlying93 elem_Tref34_item rfl (by decide) (esr_one _) (by omega) (by omega) (by simp) rfl rfl ?_
          intro v48 u48 w5 hM
          try dsimp only [List.nil_append, List.cons_append, List.set_cons_zero, List.set_cons_succ, repl] at hM
          refine E.asg rfl rfl <| E.nil <| X.next <| C.region <| E.mv rfl rfl <| ?_
          refine E.subN (a := n) (b := 1) rfl rfl (by omega) rfl ?_

          refine E.asg rfl rfl <| E.nil <| X.join3 (n - 1) (ys ++ [(l.getD a 0, 0, 0)]) v48 (Sub.cons rfl <| Sub.cons rfl <| Sub.nil _) rfl ⟨hM, by rw [hsq, List.append_assoc]; rfl, by rw [List.length_append, List.length_singleton]; omega⟩
        ·
          rw [if_neg (by omega)] at hsq

          refine C.skip <| X.join3 n ys vo (Sub.cons rfl <| Sub.cons rfl <| Sub.nil _) rfl ⟨hM, hsq, by omega⟩
      rintro m ys vo w6 ⟨hM, hsq, hyl⟩
      refine C.seq <| C.block <| ?_

      refine C.loop3 [(0, _), (4, _), (6, _)] rfl (fun (m : Nat) (ys : (List Stp)) (vo : Value) => [(3, vo), (5, i64 m)]) (fun (m : Nat) (ys : (List Stp)) (vo : Value) w' => M w (Nn) w' [Rg.slF esr 3 96 vo ys] ∧ Df.sq l 0 = ys ++ (Df.rs1 (l.getD a 0) m ++ Df.sq l e) ∧ ys.length + m ≤ e) (fun (m : Nat) (ys : (List Stp)) (vo : Value) => m) m ys vo ?_ ?_ ?_
      · exact Sub.cons rfl <| Sub.cons rfl <| Sub.nil _
      · exact ⟨hM, hsq, hyl⟩
      rintro m ys vo w7 ⟨hM, hsq, hyl⟩
      refine C.seq <| ?_

      refine C.chainE [(0, _), (3, _), (4, _), (5, _), (6, _)] rfl [(56, .bool (decide ((l.getD a 0) = 0 ∧ 11 ≤ m)))] ?_ ?_
      ·
        refine C.region <| E.mv rfl rfl <| E.bin rfl rfl rfl rfl <| E.mv rfl rfl <| ?_
        refine E.split 53 rfl (fun g53 => ?_) (fun g53 => ?_)
        ·
          try simp only [decide_eq_true_eq, decide_eq_false_iff_not, ne_eq, Decidable.not_not, Bool.not_eq_true', Bool.not_eq_false'] at g53
          refine E.on rfl rfl (E.mv rfl rfl ?_)
          refine E.on rfl rfl (E.bin rfl rfl rfl rfl ?_)
          refine E.pick rfl rfl rfl <| E.nil <| X.join0 (Sub.cons (by (first | exact leaf_f (by omega) | exact leaf_t (by omega) | exact leaf_d (by omega) | exact leaf_f (by first | (simp [*] <;> fail) | omega) | exact leaf_t (by first | (simp [*] <;> fail) | omega) | exact leaf_d (by first | (simp [*] <;> fail) | omega) | exact leaf_f (by (first | omega | ((try simp only [decide_eq_true_eq, decide_eq_false_iff_not, Bool.not_eq_true', Bool.not_eq_false'] at *); first | omega | (simp_all <;> fail) | (simp_all; omega)))) | exact leaf_t (by (first | omega | ((try simp only [decide_eq_true_eq, decide_eq_false_iff_not, Bool.not_eq_true', Bool.not_eq_false'] at *); first | omega | (simp_all <;> fail) | (simp_all; omega)))) | exact leaf_d (by (first | omega | ((try simp only [decide_eq_true_eq, decide_eq_false_iff_not, Bool.not_eq_true', Bool.not_eq_false'] at *); first | omega | (simp_all <;> fail) | (simp_all; omega)))))) <| Sub.nil _) rfl rfl
        ·
          try simp only [decide_eq_true_eq, decide_eq_false_iff_not, ne_eq, Decidable.not_not, Bool.not_eq_true', Bool.not_eq_false'] at g53
          refine E.off rfl rfl rfl rfl <| E.off rfl rfl rfl rfl <| E.pick rfl rfl rfl <| E.nil <| X.join0 (Sub.cons (by (first | exact leaf_f (by omega) | exact leaf_t (by omega) | exact leaf_d (by omega) | exact leaf_f (by first | (simp [*] <;> fail) | omega) | exact leaf_t (by first | (simp [*] <;> fail) | omega) | exact leaf_d (by first | (simp [*] <;> fail) | omega) | exact leaf_f (by (first | omega | ((try simp only [decide_eq_true_eq, decide_eq_false_iff_not, Bool.not_eq_true', Bool.not_eq_false'] at *); first | omega | (simp_all <;> fail) | (simp_all; omega)))) | exact leaf_t (by (first | omega | ((try simp only [decide_eq_true_eq, decide_eq_false_iff_not, Bool.not_eq_true', Bool.not_eq_false'] at *); first | omega | (simp_all <;> fail) | (simp_all; omega)))) | exact leaf_d (by (first | omega | ((try simp only [decide_eq_true_eq, decide_eq_false_iff_not, Bool.not_eq_true', Bool.not_eq_false'] at *); first | omega | (simp_all <;> fail) | (simp_all; omega)))))) <| Sub.nil _) rfl rfl
      refine C.cond' rfl (fun hC3 => ?_) (fun hC3 => ?_)
      ·
        rw [Df.rs1_big hC3] at hsq
        refine C.skip <| X.next <| C.block <| C.seq <| C.region <| E.mv rfl rfl <| ?_
        refine E.min2 rfl rfl rfl ?_
        rw [show min (m : Int) 138 = ((min m 138 : Nat) : Int) by omega]
        refine E.asg rfl rfl <| E.nil <| X.next <| C.seq <| C.region <| E.mv rfl rfl <| E.mv rfl rfl <| ?_
        refine E.subN (a := min m 138) (b := 11) rfl rfl (by omega) rfl ?_
        refine E.buildC (cs := [_, _, _]) [.int .i64 0, .int .i64 0, .int .i64 0] [0, 1, 2] rfl rfl (by kernel_rfl) rfl ?_
        refine E.pushFM 0 (18, min m 138 - 11, 7) hM rfl rfl rfl Tryd.underlying93 elem_Tref34_item rfl (by decide) (esr_one _) (by omega) (by omega) (by simp) rfl rfl ?_
        intro v64 u64 w8 hM
        try dsimp only [List.nil_append, List.cons_append, List.set_cons_zero, List.set_cons_succ, repl] at hM
        refine E.asg rfl rfl <| E.nil <| X.next <| C.region <| E.mv rfl rfl <| E.mv rfl rfl <| ?_
        refine E.subN (a := m) (b := min m 138) rfl rfl (by omega) rfl ?_

        refine E.asg rfl rfl <| E.nil <| X.outN <| X.again3 (m - min m 138) (ys ++ [(18, min m 138 - 11, 7)]) v64 (Sub.cons rfl <| Sub.cons rfl <| Sub.nil _) rfl ⟨hM, by rw [hsq, List.append_assoc]; rfl, by rw [List.length_append, List.length_singleton]; omega⟩ (by omega)
      ·
        refine C.exit <| X.exitT <| X.exitT <| X.outE <| X.next <| ?_

        refine C.cut3 [(0, _), (4, _), (6, _)] rfl (fun (m : Nat) (ys : (List Stp)) (vo : Value) => [(3, vo), (5, i64 m)]) (fun (m : Nat) (ys : (List Stp)) (vo : Value) w' => M w (Nn) w' [Rg.slF esr 3 96 vo ys] ∧ Df.sq l 0 = ys ++ (Df.rs3 (l.getD a 0) m ++ Df.sq l e) ∧ ys.length + m ≤ e) ?_ ?_
        ·

          refine C.chainE [(0, _), (3, _), (4, _), (5, _), (6, _)] rfl [(73, .bool (decide ((l.getD a 0) = 0 ∧ 3 ≤ m)))] ?_ ?_
          ·
            refine C.region <| E.mv rfl rfl <| E.bin rfl rfl rfl rfl <| E.mv rfl rfl <| ?_
            refine E.split 70 rfl (fun g70 => ?_) (fun g70 => ?_)
            ·
              try simp only [decide_eq_true_eq, decide_eq_false_iff_not, ne_eq, Decidable.not_not, Bool.not_eq_true', Bool.not_eq_false'] at g70
              refine E.on rfl rfl (E.mv rfl rfl ?_)
              refine E.on rfl rfl (E.bin rfl rfl rfl rfl ?_)
              refine E.pick rfl rfl rfl <| E.nil <| X.join0 (Sub.cons (by (first | exact leaf_f (by omega) | exact leaf_t (by omega) | exact leaf_d (by omega) | exact leaf_f (by first | (simp [*] <;> fail) | omega) | exact leaf_t (by first | (simp [*] <;> fail) | omega) | exact leaf_d (by first | (simp [*] <;> fail) | omega) | exact leaf_f (by (first | omega | ((try simp only [decide_eq_true_eq, decide_eq_false_iff_not, Bool.not_eq_true', Bool.not_eq_false'] at *); first | omega | (simp_all <;> fail) | (simp_all; omega)))) | exact leaf_t (by (first | omega | ((try simp only [decide_eq_true_eq, decide_eq_false_iff_not, Bool.not_eq_true', Bool.not_eq_false'] at *); first | omega | (simp_all <;> fail) | (simp_all; omega)))) | exact leaf_d (by (first | omega | ((try simp only [decide_eq_true_eq, decide_eq_false_iff_not, Bool.not_eq_true', Bool.not_eq_false'] at *); first | omega | (simp_all <;> fail) | (simp_all; omega)))))) <| Sub.nil _) rfl rfl
            ·
              try simp only [decide_eq_true_eq, decide_eq_false_iff_not, ne_eq, Decidable.not_not, Bool.not_eq_true', Bool.not_eq_false'] at g70
              refine E.off rfl rfl rfl rfl <| E.off rfl rfl rfl rfl <| E.pick rfl rfl rfl <| E.nil <| X.join0 (Sub.cons (by (first | exact leaf_f (by omega) | exact leaf_t (by omega) | exact leaf_d (by omega) | exact leaf_f (by first | (simp [*] <;> fail) | omega) | exact leaf_t (by first | (simp [*] <;> fail) | omega) | exact leaf_d (by first | (simp [*] <;> fail) | omega) | exact leaf_f (by (first | omega | ((try simp only [decide_eq_true_eq, decide_eq_false_iff_not, Bool.not_eq_true', Bool.not_eq_false'] at *); first | omega | (simp_all <;> fail) | (simp_all; omega)))) | exact leaf_t (by (first | omega | ((try simp only [decide_eq_true_eq, decide_eq_false_iff_not, Bool.not_eq_true', Bool.not_eq_false'] at *); first | omega | (simp_all <;> fail) | (simp_all; omega)))) | exact leaf_d (by (first | omega | ((try simp only [decide_eq_true_eq, decide_eq_false_iff_not, Bool.not_eq_true', Bool.not_eq_false'] at *); first | omega | (simp_all <;> fail) | (simp_all; omega)))))) <| Sub.nil _) rfl rfl
          refine C.cond' rfl (fun hC4 => ?_) (fun hC4 => ?_)
          ·
            rw [Df.rs1_mid hC3 hC4] at hsq
            refine C.seq <| C.region <| E.mv rfl rfl <| E.mv rfl rfl <| ?_
            refine E.subN (a := m) (b := 3) rfl rfl (by omega) rfl ?_
            refine E.buildC (cs := [_, _, _]) [.int .i64 0, .int .i64 0, .int .i64 0] [0, 1, 2] rfl rfl (by kernel_rfl) rfl ?_
            refine E.pushFM 0 (17, m - 3, 3) hM rfl rfl rfl Tryd.underlying93 elem_Tref34_item rfl (by decide) (esr_one _) (by omega) (by omega) (by simp) rfl rfl ?_
            intro v79 u79 w9 hM
            try dsimp only [List.nil_append, List.cons_append, List.set_cons_zero, List.set_cons_succ, repl] at hM

            refine E.asg rfl rfl <| E.nil <| X.next <| C.region <| E.asg rfl rfl <| E.nil <| X.join3 0 (ys ++ [(17, m - 3, 3)]) v79 (Sub.cons rfl <| Sub.cons rfl <| Sub.nil _) rfl ⟨hM, by rw [hsq, List.append_assoc]; rfl, by rw [List.length_append, List.length_singleton]; omega⟩
          ·
            rw [Df.rs1_few hC4] at hsq

            refine C.skip <| X.join3 m ys vo (Sub.cons rfl <| Sub.cons rfl <| Sub.nil _) rfl ⟨hM, hsq, hyl⟩
        rintro m ys vo w10 ⟨hM, hsq, hyl⟩
        refine C.seq <| C.block <| ?_

        refine C.loop3 [(0, _), (4, _), (6, _)] rfl (fun (m : Nat) (ys : (List Stp)) (vo : Value) => [(3, vo), (5, i64 m)]) (fun (m : Nat) (ys : (List Stp)) (vo : Value) w' => M w (Nn) w' [Rg.slF esr 3 96 vo ys] ∧ Df.sq l 0 = ys ++ (Df.rs3 (l.getD a 0) m ++ Df.sq l e) ∧ ys.length + m ≤ e) (fun (m : Nat) (ys : (List Stp)) (vo : Value) => m) m ys vo ?_ ?_ ?_
        · exact Sub.cons rfl <| Sub.cons rfl <| Sub.nil _
        · exact ⟨hM, hsq, hyl⟩
        rintro m ys vo w11 ⟨hM, hsq, hyl⟩
        refine C.seq <| ?_

        refine C.chainE [(0, _), (3, _), (4, _), (5, _), (6, _)] rfl [(85, .bool (decide (0 < (l.getD a 0) ∧ 3 ≤ m)))] ?_ ?_
        ·
          refine C.region <| E.mv rfl rfl <| E.bin rfl rfl rfl rfl <| E.mv rfl rfl <| ?_
          refine E.split 82 rfl (fun g82 => ?_) (fun g82 => ?_)
          ·
            try simp only [decide_eq_true_eq, decide_eq_false_iff_not, ne_eq, Decidable.not_not, Bool.not_eq_true', Bool.not_eq_false'] at g82
            refine E.on rfl rfl (E.mv rfl rfl ?_)
            refine E.on rfl rfl (E.bin rfl rfl rfl rfl ?_)
            refine E.pick rfl rfl rfl <| E.nil <| X.join0 (Sub.cons (by (first | exact leaf_f (by omega) | exact leaf_t (by omega) | exact leaf_d (by omega) | exact leaf_f (by first | (simp [*] <;> fail) | omega) | exact leaf_t (by first | (simp [*] <;> fail) | omega) | exact leaf_d (by first | (simp [*] <;> fail) | omega) | exact leaf_f (by (first | omega | ((try simp only [decide_eq_true_eq, decide_eq_false_iff_not, Bool.not_eq_true', Bool.not_eq_false'] at *); first | omega | (simp_all <;> fail) | (simp_all; omega)))) | exact leaf_t (by (first | omega | ((try simp only [decide_eq_true_eq, decide_eq_false_iff_not, Bool.not_eq_true', Bool.not_eq_false'] at *); first | omega | (simp_all <;> fail) | (simp_all; omega)))) | exact leaf_d (by (first | omega | ((try simp only [decide_eq_true_eq, decide_eq_false_iff_not, Bool.not_eq_true', Bool.not_eq_false'] at *); first | omega | (simp_all <;> fail) | (simp_all; omega)))))) <| Sub.nil _) rfl rfl
          ·
            try simp only [decide_eq_true_eq, decide_eq_false_iff_not, ne_eq, Decidable.not_not, Bool.not_eq_true', Bool.not_eq_false'] at g82
            refine E.off rfl rfl rfl rfl <| E.off rfl rfl rfl rfl <| E.pick rfl rfl rfl <| E.nil <| X.join0 (Sub.cons (by (first | exact leaf_f (by omega) | exact leaf_t (by omega) | exact leaf_d (by omega) | exact leaf_f (by first | (simp [*] <;> fail) | omega) | exact leaf_t (by first | (simp [*] <;> fail) | omega) | exact leaf_d (by first | (simp [*] <;> fail) | omega) | exact leaf_f (by (first | omega | ((try simp only [decide_eq_true_eq, decide_eq_false_iff_not, Bool.not_eq_true', Bool.not_eq_false'] at *); first | omega | (simp_all <;> fail) | (simp_all; omega)))) | exact leaf_t (by (first | omega | ((try simp only [decide_eq_true_eq, decide_eq_false_iff_not, Bool.not_eq_true', Bool.not_eq_false'] at *); first | omega | (simp_all <;> fail) | (simp_all; omega)))) | exact leaf_d (by (first | omega | ((try simp only [decide_eq_true_eq, decide_eq_false_iff_not, Bool.not_eq_true', Bool.not_eq_false'] at *); first | omega | (simp_all <;> fail) | (simp_all; omega)))))) <| Sub.nil _) rfl rfl
        refine C.cond' rfl (fun hC5 => ?_) (fun hC5 => ?_)
        ·
          rw [Df.rs3_big hC5] at hsq
          refine C.skip <| X.next <| C.block <| C.seq <| C.region <| E.mv rfl rfl <| ?_
          refine E.min2 rfl rfl rfl ?_
          rw [show min (m : Int) 6 = ((min m 6 : Nat) : Int) by omega]
          refine E.asg rfl rfl <| E.nil <| X.next <| C.seq <| C.region <| E.mv rfl rfl <| E.mv rfl rfl <| ?_
          refine E.subN (a := min m 6) (b := 3) rfl rfl (by omega) rfl ?_
          refine E.buildC (cs := [_, _, _]) [.int .i64 0, .int .i64 0, .int .i64 0] [0, 1, 2] rfl rfl (by kernel_rfl) rfl ?_
          refine E.pushFM 0 (16, min m 6 - 3, 2) hM rfl rfl rfl Tryd.underlying93 elem_Tref34_item rfl (by decide) (esr_one _) (by omega) (by omega) (by simp) rfl rfl ?_
          intro v93 u93 w12 hM
          try dsimp only [List.nil_append, List.cons_append, List.set_cons_zero, List.set_cons_succ, repl] at hM
          refine E.asg rfl rfl <| E.nil <| X.next <| C.region <| E.mv rfl rfl <| E.mv rfl rfl <| ?_
          refine E.subN (a := m) (b := min m 6) rfl rfl (by omega) rfl ?_

          refine E.asg rfl rfl <| E.nil <| X.outN <| X.again3 (m - min m 6) (ys ++ [(16, min m 6 - 3, 2)]) v93 (Sub.cons rfl <| Sub.cons rfl <| Sub.nil _) rfl ⟨hM, by rw [hsq, List.append_assoc]; rfl, by rw [List.length_append, List.length_singleton]; omega⟩ (by omega)
        ·
          rw [Df.rs3_few hC5] at hsq
          refine C.exit <| X.exitT <| X.exitT <| X.outE <| X.next <| C.block <| ?_

          refine C.loop3 [(0, _), (4, _), (6, _)] rfl (fun (m : Nat) (ys : (List Stp)) (vo : Value) => [(3, vo), (5, i64 m)]) (fun (m : Nat) (ys : (List Stp)) (vo : Value) w' => M w (Nn) w' [Rg.slF esr 3 96 vo ys] ∧ Df.sq l 0 = ys ++ (List.replicate m ((l.getD a 0), 0, 0) ++ Df.sq l e) ∧ ys.length + m ≤ e) (fun (m : Nat) (ys : (List Stp)) (vo : Value) => m) m ys vo ?_ ?_ ?_
          · exact Sub.cons rfl <| Sub.cons rfl <| Sub.nil _
          · exact ⟨hM, hsq, hyl⟩
          rintro m ys vo w13 ⟨hM, hsq, hyl⟩
          refine C.seq <| C.seq <| C.region <| E.mv rfl rfl <| E.bin rfl rfl rfl rfl <| E.nil <| X.next <| ?_
          refine C.cond' rfl (fun hC6 => ?_) (fun hC6 => ?_)
          ·
            obtain ⟨mq, rfl⟩ : ∃ q, m = q + 1 := ⟨m - 1, by omega⟩
            rw [List.replicate_succ] at hsq
            refine C.skip <| X.next <| C.block <| C.seq <| C.region <| E.mv rfl rfl <| E.mv rfl rfl <| ?_
            refine E.buildC (cs := [_, _, _]) [.int .i64 0, .int .i64 0, .int .i64 0] [0] rfl rfl (by kernel_rfl) rfl ?_
            refine E.pushFM 0 (l.getD a 0, 0, 0) hM rfl rfl rfl Tryd.underlying93 elem_Tref34_item rfl (by decide) (esr_one _) (by omega) (by omega) (by simp) rfl rfl ?_
            intro v103 u103 w14 hM
            try dsimp only [List.nil_append, List.cons_append, List.set_cons_zero, List.set_cons_succ, repl] at hM
            refine E.asg rfl rfl <| E.nil <| X.next <| C.region <| E.mv rfl rfl <| ?_
            refine E.subN (a := mq + 1) (b := 1) rfl rfl (by omega) rfl ?_

            refine E.asg rfl rfl <| E.nil <| X.outN <| X.again3 mq (ys ++ [(l.getD a 0, 0, 0)]) v103 (Sub.cons rfl <| Sub.cons rfl <| Sub.nil _) rfl ⟨hM, by rw [hsq, List.append_assoc]; rfl, by rw [List.length_append, List.length_singleton]; omega⟩ (by omega)
          ·
            obtain rfl : m = 0 := by omega
            rw [List.replicate_zero, List.nil_append] at hsq

            refine C.exit <| X.exitT <| X.exitT <| X.outE <| X.outN <| X.again3 e ys vo (Sub.cons rfl <| Sub.cons rfl <| Sub.nil _) rfl ⟨hM, hr2, hsq, by omega⟩ (by omega)
  ·
    rw [Df.sq_end (show l.length ≤ a by omega), List.append_nil] at hsq
    refine C.exit <| X.exitT <| X.exitT <| X.outE <| X.next <| C.seq <| C.region <| E.mv rfl rfl <| E.asg rfl rfl <| E.nil <| X.next <| C.ret <| ret1 rfl rfl ?_
    exact hM.to (by rw [hsq])

end Go.Proofs.YtcmgbjmcklfkcaaDoor
