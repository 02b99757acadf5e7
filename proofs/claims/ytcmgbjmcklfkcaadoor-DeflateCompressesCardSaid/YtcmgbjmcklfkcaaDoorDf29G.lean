/- barscanref34: lengths and distances, fixed codes. -/
import Derived.Test.YtcmgbjmcklfkcaaDoorG34
namespace Go.Proofs.YtcmgbjmcklfkcaaDoor
set_option linter.unusedSimpArgs false
set_option linter.unusedVariables false
open Go.RowKit Sym

namespace Df
theorem lgap : ∀ t, t < 285 → ∀ s, s < t → 257 ≤ s → lls s + 2 ^ lxt s ≤ lls t := by decide +kernel
theorem dgap : ∀ t, t < 30 → ∀ s, s < t → dls s + 2 ^ dxt s ≤ dls t := by decide +kernel
theorem lsy_284 {n : Nat} (h1 : 3 ≤ n) (h2 : n < 258) : lsy n ≤ 284 := by
  obtain ⟨h3, h4, h5, h6⟩ := lsy_spec h1 (by omega)
  by_cases c : lsy n = 285
  · rw [c] at h5; have : lls 285 = 258 := by decide
    omega
  · omega
theorem lsy_258 : lsy 258 = 285 := by decide +kernel
end Df
theorem rpower_ret (n : Nat) (w : World) (hn : n ≤ 30) :
    Ret Tryd.prog 49 #[i64 n] w fun v w' => v = i64 ((2 ^ n : Nat) : Int) ∧ Ext w w' := by
  have hM := M.start w
  refine enter Tryd.func49 rfl (by kernel_rfl) Tryd.ntmps49 rfl ?_
  refine C.seq <| C.region <| E.asg rfl rfl <| E.nil <| X.next <| C.seq <| C.region <| E.asg rfl rfl <| E.nil <| X.next <| C.seq <| C.seq <| C.region <| E.asg rfl rfl <| E.nil <| X.next <| C.block <| ?_

  refine C.loop1 [(0, _)] rfl (fun (i : Nat) => [(3, i64 ((2 ^ i : Nat) : Int)), (4, i64 i)]) (fun (i : Nat) w' => M w (Nn) w' [] ∧ i ≤ n) (fun (i : Nat) => n - i) 0 ?_ ?_ ?_
  · exact Sub.cons rfl <| Sub.cons rfl <| Sub.nil _
  · exact ⟨hM, Nat.zero_le _⟩
  rintro i w0 ⟨hM, hi⟩
  refine C.seq <| C.seq <| C.region <| E.mv rfl rfl <| E.mv rfl rfl <| E.bin rfl rfl rfl rfl <| E.nil <| X.next <| ?_
  refine C.cond' rfl (fun hC0 => ?_) (fun hC0 => ?_)
  ·
    have hp : 2 ^ i ≤ 2 ^ 30 := Nat.pow_le_pow_right (by decide) (by omega)
    refine C.skip <| X.next <| C.seq <| C.block <| C.region <| E.mv rfl rfl <| ?_
    refine E.mulN (a := 2) (b := 2 ^ i) rfl rfl (by omega) rfl ?_
    refine E.asg rfl rfl <| E.nil <| X.outN <| X.next <| C.region <| E.mv rfl rfl <| ?_
    refine E.addN (a := i) (b := 1) rfl rfl (by omega) rfl ?_

    refine E.asg rfl rfl <| E.nil <| X.again1 (i + 1) (Sub.cons (look_val rfl (by rw [Nat.pow_succ, Nat.mul_comm])) <| Sub.cons rfl <| Sub.nil _) rfl ⟨hM, by omega⟩ (by omega)
  ·
    obtain rfl : i = n := by omega
    refine C.exit <| X.exitT <| X.exitT <| X.outE <| X.next <| C.seq <| C.region <| E.mv rfl rfl <| E.asg rfl rfl <| E.nil <| X.next <| C.ret <| ret1 rfl rfl ?_
    exact ⟨rfl, hM.toExt⟩

theorem rlengthOf_ret (s : Nat) (w : World) (h1 : 257 ≤ s) (h2 : s ≤ 285) :
    Ret Tryd.prog 83 #[i64 s] w fun v w' => v = .tuple #[i64 (Df.lxt s : Int), i64 (Df.lls s : Int)] ∧ Ext w w' := by
  have hM := M.start w
  refine enter Tryd.func83 rfl (by kernel_rfl) Tryd.ntmps83 rfl ?_
  refine C.seq <| C.region <| E.asg rfl rfl <| E.asg rfl rfl <| E.nil <| X.next <| C.seq <| C.seq <| C.region <| E.mv rfl rfl <| E.bin rfl rfl rfl rfl <| E.nil <| X.next <| ?_
  refine C.cond' rfl (fun hC0 => ?_) (fun hC0 => ?_)
  ·
    refine C.seq <| C.region <| E.asg rfl rfl <| E.asg rfl rfl <| E.nil <| X.next <| C.ret <| X.retT <| ret2 rfl rfl rfl ?_
    exact ⟨by (have e : s = 285 := (by omega)); subst e; rfl, hM.toExt⟩
  ·
    refine C.skip <| X.next <| C.seq <| C.seq <| C.region <| E.mv rfl rfl <| E.bin rfl rfl rfl rfl <| E.nil <| X.next <| ?_
    refine C.cond' rfl (fun hC1 => ?_) (fun hC1 => ?_)
    ·
      refine C.seq <| C.region <| E.mv rfl rfl <| ?_
      refine E.subN (a := s) (b := 254) rfl rfl (by omega) rfl ?_
      refine E.asg rfl rfl <| E.asg rfl rfl <| E.nil <| X.next <| C.ret <| X.retT <| ret2 rfl rfl rfl ?_
      exact ⟨by rw [Df.lxt, if_neg (by omega), if_pos (by omega), Df.lls, if_neg (by omega), if_pos (by omega)]; rfl, hM.toExt⟩
    ·
      refine C.skip <| X.next <| C.seq <| C.region <| E.mv rfl rfl <| ?_
      refine E.subN (a := s) (b := 261) rfl rfl (by omega) rfl ?_
      refine E.quo rfl rfl (by omega) (quoN (a := s - 261) (b := 4) (by omega) (by omega)) rfl ?_
      refine E.asg rfl rfl <| E.nil <| X.next <| C.seq <| C.region <| E.mv rfl rfl <| E.mv rfl rfl <| ?_
      refine E.subN (a := s) (b := 257) rfl rfl (by omega) rfl ?_
      refine E.rem rfl rfl (by omega) (remN (a := s - 257) (b := 4)) rfl ?_
      refine E.addN (a := 4) (b := (s - 257) % 4) rfl rfl (by omega) rfl ?_
      refine E.mv rfl rfl <| ?_
      refine E.call rfl rfl (rpower_ret ((s - 261) / 4) _ (by omega)) ?_
      rintro _ w1 ⟨rfl, x1⟩
      have hM := hM.ext x1
      try dsimp only [List.nil_append, List.cons_append, List.set_cons_zero, List.set_cons_succ, repl] at hM
      have hp : 2 ^ ((s - 261) / 4) ≤ 2 ^ 6 := Nat.pow_le_pow_right (by decide) (by omega)
      have hp2 := Nat.mul_le_mul (show 4 + (s - 257) % 4 ≤ 7 by omega) hp
      refine E.mulN (a := 4 + (s - 257) % 4) (b := 2 ^ ((s - 261) / 4)) rfl rfl (by omega) rfl ?_
      refine E.addN (a := 3) (b := (4 + (s - 257) % 4) * 2 ^ ((s - 261) / 4)) rfl rfl (by omega) rfl ?_
      refine E.asg rfl rfl <| E.asg rfl rfl <| E.nil <| X.next <| C.ret <| ret2 rfl rfl rfl ?_
      exact ⟨by rw [Df.lxt, Df.lls, if_neg (by omega), if_neg (by omega), if_neg (by omega), if_neg (by omega), show (s - 261) % 4 = (s - 257) % 4 by omega], hM.toExt⟩

theorem rdistanceOf_ret (s : Nat) (w : World) (h2 : s ≤ 29) :
    Ret Tryd.prog 84 #[i64 s] w fun v w' => v = .tuple #[i64 (Df.dxt s : Int), i64 (Df.dls s : Int)] ∧ Ext w w' := by
  have hM := M.start w
  refine enter Tryd.func84 rfl (by kernel_rfl) Tryd.ntmps84 rfl ?_
  refine C.seq <| C.region <| E.asg rfl rfl <| E.asg rfl rfl <| E.nil <| X.next <| C.seq <| C.seq <| C.region <| E.mv rfl rfl <| E.bin rfl rfl rfl rfl <| E.nil <| X.next <| ?_
  refine C.cond' rfl (fun hC0 => ?_) (fun hC0 => ?_)
  ·
    refine C.seq <| C.region <| E.mv rfl rfl <| ?_
    refine E.addN (a := s) (b := 1) rfl rfl (by omega) rfl ?_
    refine E.asg rfl rfl <| E.asg rfl rfl <| E.nil <| X.next <| C.ret <| X.retT <| ret2 rfl rfl rfl ?_
    exact ⟨by rw [Df.dxt, Df.dls, if_pos (by omega), if_pos (by omega)]; rfl, hM.toExt⟩
  ·
    refine C.skip <| X.next <| C.seq <| C.region <| E.mv rfl rfl <| ?_
    refine E.quo rfl rfl (by omega) (quoN (a := s) (b := 2) (by omega) (by omega)) rfl ?_
    refine E.subN (a := s / 2) (b := 1) rfl rfl (by omega) rfl ?_
    refine E.asg rfl rfl <| E.nil <| X.next <| C.seq <| C.region <| E.mv rfl rfl <| E.mv rfl rfl <| ?_
    refine E.rem rfl rfl (by omega) (remN (a := s) (b := 2)) rfl ?_
    refine E.addN (a := 2) (b := s % 2) rfl rfl (by omega) rfl ?_
    refine E.mv rfl rfl <| ?_
    refine E.call rfl rfl (rpower_ret (s / 2 - 1) _ (by omega)) ?_
    rintro _ w1 ⟨rfl, x1⟩
    have hM := hM.ext x1
    try dsimp only [List.nil_append, List.cons_append, List.set_cons_zero, List.set_cons_succ, repl] at hM
    have hp : 2 ^ (s / 2 - 1) ≤ 2 ^ 13 := Nat.pow_le_pow_right (by decide) (by omega)
    have hp2 := Nat.mul_le_mul (show 2 + s % 2 ≤ 3 by omega) hp
    refine E.mulN (a := 2 + s % 2) (b := 2 ^ (s / 2 - 1)) rfl rfl (by omega) rfl ?_
    refine E.addN (a := 1) (b := (2 + s % 2) * 2 ^ (s / 2 - 1)) rfl rfl (by omega) rfl ?_
    refine E.asg rfl rfl <| E.asg rfl rfl <| E.nil <| X.next <| C.ret <| ret2 rfl rfl rfl ?_
    exact ⟨by rw [Df.dxt, Df.dls, if_neg (by omega), if_neg (by omega)], hM.toExt⟩

set_option maxHeartbeats 1000000 in
theorem rlengthSymbol_ret (n : Nat) (w : World) (h1 : 3 ≤ n) (h2 : n ≤ 258) :
    Ret Tryd.prog 52 #[i64 n] w fun v w' => v = .tuple #[i64 (Df.lsy n : Int), i64 (Df.lxt (Df.lsy n) : Int), i64 ((n - Df.lls (Df.lsy n) : Nat) : Int)] ∧ Ext w w' := by
  have hM := M.start w
  refine enter Tryd.func52 rfl (by kernel_rfl) Tryd.ntmps52 rfl ?_
  refine C.seq <| C.region <| E.asg rfl rfl <| E.asg rfl rfl <| E.asg rfl rfl <| E.nil <| X.next <| C.seq <| C.seq <| C.region <| E.mv rfl rfl <| E.bin rfl rfl rfl rfl <| E.nil <| X.next <| ?_
  refine C.cond' rfl (fun hC0 => ?_) (fun hC0 => ?_)
  ·
    obtain rfl : n = 258 := by omega
    refine C.seq <| C.region <| E.asg rfl rfl <| E.asg rfl rfl <| E.asg rfl rfl <| E.nil <| X.next <| C.ret <| X.retT <| ret3 rfl rfl rfl rfl ?_
    exact ⟨by rw [Df.lsy_258]; rfl, hM.toExt⟩
  ·
    have h284 := Df.lsy_284 h1 (by omega)
    obtain ⟨hy1, hy2, hy3, hy4⟩ := Df.lsy_spec h1 h2
    refine C.skip <| X.next <| C.seq <| C.seq <| C.region <| E.asg rfl rfl <| E.nil <| X.next <| C.block <| ?_

    refine C.loop1 [(0, _)] rfl (fun (s : Nat) => [(5, i64 s)]) (fun (s : Nat) w' => M w (Nn) w' [] ∧ 257 ≤ s ∧ s ≤ Df.lsy n) (fun (s : Nat) => 285 - s) 257 ?_ ?_ ?_
    · exact Sub.cons rfl <| Sub.nil _
    · exact ⟨hM, by omega, hy1⟩
    rintro s w0 ⟨hM, hs1, hs2⟩
    refine C.seq <| C.seq <| C.region <| E.mv rfl rfl <| E.bin rfl rfl rfl rfl <| E.nil <| X.next <| ?_
    refine C.cond' rfl (fun hC1 => ?_) (fun hC1 => ?_)
    ·
      refine C.skip <| X.next <| C.seq <| C.block <| C.seq <| C.region <| E.mv rfl rfl <| ?_
      refine E.call rfl rfl (rlengthOf_ret s _ hs1 (by omega)) ?_
      rintro _ w1 ⟨rfl, x1⟩
      have hM := hM.ext x1
      try dsimp only [List.nil_append, List.cons_append, List.set_cons_zero, List.set_cons_succ, repl] at hM
      have hbd := Df.lx_bd s (by omega)
      have hp : 2 ^ Df.lxt s ≤ 2 ^ 5 := Nat.pow_le_pow_right (by decide) (by omega)
      refine E.mv rfl rfl <| E.ext rfl rfl rfl <| E.ext rfl rfl rfl <| E.asg rfl rfl <| E.asg rfl rfl <| E.nil <| X.next <| ?_

      refine C.cut0 [(0, _), (5, _), (6, _), (7, _)] rfl [(29, .bool (decide (Df.lls s ≤ n ∧ n < Df.lls s + 2 ^ Df.lxt s)))] (fun w' => M w (Nn) w' []) ?_ ?_
      ·
        refine C.region <| E.mv rfl rfl <| E.mv rfl rfl <| E.bin rfl rfl rfl rfl <| E.mv rfl rfl <| ?_
        refine E.split 22 rfl (fun g22 => ?_) (fun g22 => ?_)
        ·
          try simp only [decide_eq_true_eq, decide_eq_false_iff_not, ne_eq, Decidable.not_not, Bool.not_eq_true', Bool.not_eq_false'] at g22
          refine E.on rfl rfl (E.mv rfl rfl ?_)
          refine E.on rfl rfl (E.mv rfl rfl ?_)
          refine E.on rfl rfl (E.mv rfl rfl ?_)
          refine E.on rfl rfl (E.call rfl rfl (rpower_ret (Df.lxt s) _ (by omega)) ?_)
          rintro _ w2 ⟨rfl, x2⟩
          have hM := hM.ext x2
          try dsimp only [List.nil_append, List.cons_append, List.set_cons_zero, List.set_cons_succ, repl] at hM
          refine E.on rfl rfl (E.addN (a := Df.lls s) (b := 2 ^ Df.lxt s) rfl rfl (by omega) rfl ?_)
          refine E.on rfl rfl (E.bin rfl rfl rfl rfl ?_)

          refine E.pick rfl rfl rfl <| E.nil <| X.join0  (Sub.cons (look_eq rfl (congrArg _ (decide_eq_decide.2 ⟨fun h => by omega, fun h => by omega⟩))) <| Sub.nil _) rfl hM
        ·
          try simp only [decide_eq_true_eq, decide_eq_false_iff_not, ne_eq, Decidable.not_not, Bool.not_eq_true', Bool.not_eq_false'] at g22

          refine E.off rfl rfl rfl rfl <| E.off rfl rfl rfl rfl <| E.off rfl rfl rfl rfl <| E.off rfl rfl rfl rfl <| E.off rfl rfl rfl rfl <| E.off rfl rfl rfl rfl <| E.pick rfl rfl rfl <| E.nil <| X.join0  (Sub.cons (look_eq rfl (by rw [decide_eq_false (fun h => by omega)])) <| Sub.nil _) rfl hM
      rintro  w3 hM
      refine C.cond' rfl (fun hC2 => ?_) (fun hC2 => ?_)
      ·
        have hse : s = Df.lsy n := by
          by_cases c : s = Df.lsy n
          · exact c
          · have := Df.lgap (Df.lsy n) (by omega) s (by omega) hs1; omega
        subst hse
        refine C.seq <| C.region <| E.mv rfl rfl <| E.mv rfl rfl <| E.mv rfl rfl <| E.mv rfl rfl <| ?_
        refine E.subN (a := n) (b := Df.lls (Df.lsy n)) rfl rfl (by omega) rfl ?_
        refine E.asg rfl rfl <| E.asg rfl rfl <| E.asg rfl rfl <| E.nil <| X.next <| C.ret <| X.retB <| X.retT <| X.retT <| X.retB <| X.retT <| ret3 rfl rfl rfl rfl ?_
        exact ⟨rfl, hM.toExt⟩
      ·
        have hne : s ≠ Df.lsy n := fun h => by rw [h] at hC2; exact hC2 ⟨hy3, hy4⟩
        refine C.skip <| X.outN <| X.next <| C.region <| E.mv rfl rfl <| ?_
        refine E.addN (a := s) (b := 1) rfl rfl (by omega) rfl ?_

        refine E.asg rfl rfl <| E.nil <| X.again1 (s + 1) (Sub.cons rfl <| Sub.nil _) rfl ⟨hM, by omega, by omega⟩ (by omega)
    ·
      omega

set_option maxHeartbeats 1000000 in
theorem rdistanceSymbol_ret (n : Nat) (w : World) (h1 : 1 ≤ n) (h2 : n ≤ 32768) :
    Ret Tryd.prog 53 #[i64 n] w fun v w' => v = .tuple #[i64 (Df.dsy n : Int), i64 (Df.dxt (Df.dsy n) : Int), i64 ((n - Df.dls (Df.dsy n) : Nat) : Int)] ∧ Ext w w' := by
  have hM := M.start w
  refine enter Tryd.func53 rfl (by kernel_rfl) Tryd.ntmps53 rfl ?_
  refine C.seq <| C.region <| E.asg rfl rfl <| E.asg rfl rfl <| E.asg rfl rfl <| E.nil <| X.next <| C.seq <| C.seq <| C.region <| E.asg rfl rfl <| E.nil <| X.next <| C.block <| ?_
  obtain ⟨hy2, hy3, hy4⟩ := Df.dsy_spec h1 h2

  refine C.loop1 [(0, _)] rfl (fun (s : Nat) => [(5, i64 s)]) (fun (s : Nat) w' => M w (Nn) w' [] ∧ s ≤ Df.dsy n) (fun (s : Nat) => 30 - s) 0 ?_ ?_ ?_
  · exact Sub.cons rfl <| Sub.nil _
  · exact ⟨hM, Nat.zero_le _⟩
  rintro s w0 ⟨hM, hs2⟩
  refine C.seq <| C.seq <| C.region <| E.mv rfl rfl <| E.bin rfl rfl rfl rfl <| E.nil <| X.next <| ?_
  refine C.cond' rfl (fun hC0 => ?_) (fun hC0 => ?_)
  ·
    refine C.skip <| X.next <| C.seq <| C.block <| C.seq <| C.region <| E.mv rfl rfl <| ?_
    refine E.call rfl rfl (rdistanceOf_ret s _ (by omega)) ?_
    rintro _ w1 ⟨rfl, x1⟩
    have hM := hM.ext x1
    try dsimp only [List.nil_append, List.cons_append, List.set_cons_zero, List.set_cons_succ, repl] at hM
    have hbd := Df.dx_bd s (by omega)
    have hp : 2 ^ Df.dxt s ≤ 2 ^ 13 := Nat.pow_le_pow_right (by decide) (by omega)
    refine E.mv rfl rfl <| E.ext rfl rfl rfl <| E.ext rfl rfl rfl <| E.asg rfl rfl <| E.asg rfl rfl <| E.nil <| X.next <| ?_

    refine C.cut0 [(0, _), (5, _), (6, _), (7, _)] rfl [(27, .bool (decide (Df.dls s ≤ n ∧ n < Df.dls s + 2 ^ Df.dxt s)))] (fun w' => M w (Nn) w' []) ?_ ?_
    ·
      refine C.region <| E.mv rfl rfl <| E.mv rfl rfl <| E.bin rfl rfl rfl rfl <| E.mv rfl rfl <| ?_
      refine E.split 20 rfl (fun g20 => ?_) (fun g20 => ?_)
      ·
        try simp only [decide_eq_true_eq, decide_eq_false_iff_not, ne_eq, Decidable.not_not, Bool.not_eq_true', Bool.not_eq_false'] at g20
        refine E.on rfl rfl (E.mv rfl rfl ?_)
        refine E.on rfl rfl (E.mv rfl rfl ?_)
        refine E.on rfl rfl (E.mv rfl rfl ?_)
        refine E.on rfl rfl (E.call rfl rfl (rpower_ret (Df.dxt s) _ (by omega)) ?_)
        rintro _ w2 ⟨rfl, x2⟩
        have hM := hM.ext x2
        try dsimp only [List.nil_append, List.cons_append, List.set_cons_zero, List.set_cons_succ, repl] at hM
        refine E.on rfl rfl (E.addN (a := Df.dls s) (b := 2 ^ Df.dxt s) rfl rfl (by omega) rfl ?_)
        refine E.on rfl rfl (E.bin rfl rfl rfl rfl ?_)

        refine E.pick rfl rfl rfl <| E.nil <| X.join0  (Sub.cons (look_eq rfl (congrArg _ (decide_eq_decide.2 ⟨fun h => by omega, fun h => by omega⟩))) <| Sub.nil _) rfl hM
      ·
        try simp only [decide_eq_true_eq, decide_eq_false_iff_not, ne_eq, Decidable.not_not, Bool.not_eq_true', Bool.not_eq_false'] at g20

        refine E.off rfl rfl rfl rfl <| E.off rfl rfl rfl rfl <| E.off rfl rfl rfl rfl <| E.off rfl rfl rfl rfl <| E.off rfl rfl rfl rfl <| E.off rfl rfl rfl rfl <| E.pick rfl rfl rfl <| E.nil <| X.join0  (Sub.cons (look_eq rfl (by rw [decide_eq_false (fun h => by omega)])) <| Sub.nil _) rfl hM
    rintro  w3 hM
    refine C.cond' rfl (fun hC1 => ?_) (fun hC1 => ?_)
    ·
      have hse : s = Df.dsy n := by
        by_cases c : s = Df.dsy n
        · exact c
        · have := Df.dgap (Df.dsy n) (by omega) s (by omega); omega
      subst hse
      refine C.seq <| C.region <| E.mv rfl rfl <| E.mv rfl rfl <| E.mv rfl rfl <| E.mv rfl rfl <| ?_
      refine E.subN (a := n) (b := Df.dls (Df.dsy n)) rfl rfl (by omega) rfl ?_
      refine E.asg rfl rfl <| E.asg rfl rfl <| E.asg rfl rfl <| E.nil <| X.next <| C.ret <| X.retB <| X.retT <| X.retT <| X.retB <| X.retT <| ret3 rfl rfl rfl rfl ?_
      exact ⟨rfl, hM.toExt⟩
    ·
      have hne : s ≠ Df.dsy n := fun h => by rw [h] at hC1; exact hC1 ⟨hy3, hy4⟩
      refine C.skip <| X.outN <| X.next <| C.region <| E.mv rfl rfl <| ?_
      refine E.addN (a := s) (b := 1) rfl rfl (by omega) rfl ?_

      refine E.asg rfl rfl <| E.nil <| X.again1 (s + 1) (Sub.cons rfl <| Sub.nil _) rfl ⟨hM, by omega⟩ (by omega)
  ·
    omega

theorem rfixL_ret (w : World) :
    Ret Tryd.prog 31 #[] w fun v w' => M w Nn w' [Rg.sl i64 3 v (nz Df.fixL)] := by
  have hM := M.start w
  refine enter Tryd.func31 rfl (by kernel_rfl) Tryd.ntmps31 rfl ?_
  refine C.seq <| C.region <| E.asg rfl rfl <| E.nil <| X.next <| C.seq <| C.region <| E.asg rfl rfl <| E.nil <| X.next <| C.seq <| C.seq <| C.region <| E.asg rfl rfl <| E.nil <| X.next <| C.block <| ?_
  have hM := hM.nil i64 3
  try dsimp only [List.nil_append, List.cons_append, List.set_cons_zero, List.set_cons_succ, repl] at hM

  refine C.loop2 [] rfl (fun (k : Nat) (v1 : Value) => [(1, v1), (2, i64 k)]) (fun (k : Nat) (v1 : Value) w' => M w (Nn) w' [Rg.sl i64 3 v1 (tab k (fun i => (Df.fxl i : Int)))] ∧ k ≤ 288) (fun (k : Nat) (v1 : Value) => 288 - k) 0 (.slice none 0 0) ?_ ?_ ?_
  · exact Sub.cons rfl <| Sub.cons rfl <| Sub.nil _
  · exact ⟨hM, by omega⟩
  rintro k v1 w0 ⟨hM, hk⟩
  refine C.seq <| C.seq <| C.region <| E.mv rfl rfl <| E.bin rfl rfl rfl rfl <| E.nil <| X.next <| ?_
  refine C.cond' rfl (fun hC0 => ?_) (fun hC0 => ?_)
  ·
    have htl := tab_len k (fun i => (Df.fxl i : Int))
    refine C.skip <| X.next <| ?_

    refine C.cut1 [(2, _)] rfl (fun (v1 : Value) => [(1, v1)]) (fun (v1 : Value) w' => M w (Nn) w' [Rg.sl i64 3 v1 (tab (k + 1) (fun i => (Df.fxl i : Int)))]) ?_ ?_
    ·
      refine C.block <| C.block <| C.seq <| C.region <| E.mv rfl rfl <| E.bin rfl rfl rfl rfl <| E.asg rfl rfl <| E.nil <| X.next <| ?_
      refine C.cond' rfl (fun hC1 => ?_) (fun hC1 => ?_)
      ·
        refine C.region <| E.mv rfl rfl <| ?_
        refine E.pushM (enc := i64) 0 (8 : Int) hM rfl rfl rfl Tryd.underlying29 elem_Tint rfl (by omega) (by omega) (by simp) rfl rfl ?_
        intro v15 u15 w1 hM
        try dsimp only [List.nil_append, List.cons_append, List.set_cons_zero, List.set_cons_succ, repl] at hM

        refine E.asg rfl rfl <| E.nil <| X.outN <| X.outN <| X.join1 v15 (Sub.cons rfl <| Sub.nil _) rfl (hM.to (by rw [tab_succ, show ((Df.fxl k : Nat) : Int) = 8 by unfold Df.fxl; split <;> (try split) <;> (try split) <;> omega]))
      ·
        refine C.seq <| C.region <| E.mv rfl rfl <| E.bin rfl rfl rfl rfl <| E.asg rfl rfl <| E.nil <| X.next <| ?_
        refine C.cond' rfl (fun hC2 => ?_) (fun hC2 => ?_)
        ·
          refine C.region <| E.mv rfl rfl <| ?_
          refine E.pushM (enc := i64) 0 (9 : Int) hM rfl rfl rfl Tryd.underlying29 elem_Tint rfl (by omega) (by omega) (by simp) rfl rfl ?_
          intro v21 u21 w2 hM
          try dsimp only [List.nil_append, List.cons_append, List.set_cons_zero, List.set_cons_succ, repl] at hM

          refine E.asg rfl rfl <| E.nil <| X.outN <| X.outN <| X.join1 v21 (Sub.cons rfl <| Sub.nil _) rfl (hM.to (by rw [tab_succ, show ((Df.fxl k : Nat) : Int) = 9 by unfold Df.fxl; split <;> (try split) <;> (try split) <;> omega]))
        ·
          refine C.seq <| C.region <| E.mv rfl rfl <| E.bin rfl rfl rfl rfl <| E.asg rfl rfl <| E.nil <| X.next <| ?_
          refine C.cond' rfl (fun hC3 => ?_) (fun hC3 => ?_)
          ·
            refine C.region <| E.mv rfl rfl <| ?_
            refine E.pushM (enc := i64) 0 (7 : Int) hM rfl rfl rfl Tryd.underlying29 elem_Tint rfl (by omega) (by omega) (by simp) rfl rfl ?_
            intro v27 u27 w3 hM
            try dsimp only [List.nil_append, List.cons_append, List.set_cons_zero, List.set_cons_succ, repl] at hM

            refine E.asg rfl rfl <| E.nil <| X.outN <| X.outN <| X.join1 v27 (Sub.cons rfl <| Sub.nil _) rfl (hM.to (by rw [tab_succ, show ((Df.fxl k : Nat) : Int) = 7 by unfold Df.fxl; split <;> (try split) <;> (try split) <;> omega]))
          ·
            refine C.region <| E.mv rfl rfl <| ?_
            refine E.pushM (enc := i64) 0 (8 : Int) hM rfl rfl rfl Tryd.underlying29 elem_Tint rfl (by omega) (by omega) (by simp) rfl rfl ?_
            intro v9 u9 w4 hM
            try dsimp only [List.nil_append, List.cons_append, List.set_cons_zero, List.set_cons_succ, repl] at hM

            refine E.asg rfl rfl <| E.nil <| X.outN <| X.outN <| X.join1 v9 (Sub.cons rfl <| Sub.nil _) rfl (hM.to (by rw [tab_succ, show ((Df.fxl k : Nat) : Int) = 8 by unfold Df.fxl; split <;> (try split) <;> (try split) <;> omega]))
    rintro v1 w5 hM
    refine C.region <| E.mv rfl rfl <| ?_
    refine E.addN (a := k) (b := 1) rfl rfl (by omega) rfl ?_

    refine E.asg rfl rfl <| E.nil <| X.again2 (k + 1) v1 (Sub.cons rfl <| Sub.cons rfl <| Sub.nil _) rfl ⟨hM, by omega⟩ (by omega)
  ·
    obtain rfl : k = 288 := by omega
    refine C.exit <| X.exitT <| X.exitT <| X.outE <| X.next <| C.seq <| C.region <| E.mv rfl rfl <| E.asg rfl rfl <| E.nil <| X.next <| C.ret <| ret1 rfl rfl ?_
    exact hM.to (by rw [Df.fixL, Df.nz_tab])

theorem rfixD_ret (w : World) :
    Ret Tryd.prog 32 #[] w fun v w' => M w Nn w' [Rg.sl i64 3 v (nz Df.fixD)] := by
  have hM := M.start w
  refine enter Tryd.func32 rfl (by kernel_rfl) Tryd.ntmps32 rfl ?_
  refine C.seq <| C.region <| E.asg rfl rfl <| E.nil <| X.next <| C.seq <| C.region <| E.asg rfl rfl <| E.nil <| X.next <| C.seq <| C.seq <| C.region <| E.asg rfl rfl <| E.nil <| X.next <| C.block <| ?_
  have hM := hM.nil i64 3
  try dsimp only [List.nil_append, List.cons_append, List.set_cons_zero, List.set_cons_succ, repl] at hM

  refine C.loop2 [] rfl (fun (k : Nat) (v1 : Value) => [(1, v1), (2, i64 k)]) (fun (k : Nat) (v1 : Value) w' => M w (Nn) w' [Rg.sl i64 3 v1 (tab k (fun _ => (5 : Int)))] ∧ k ≤ 32) (fun (k : Nat) (v1 : Value) => 32 - k) 0 (.slice none 0 0) ?_ ?_ ?_
  · exact Sub.cons rfl <| Sub.cons rfl <| Sub.nil _
  · exact ⟨hM, by omega⟩
  rintro k v1 w0 ⟨hM, hk⟩
  refine C.seq <| C.seq <| C.region <| E.mv rfl rfl <| E.bin rfl rfl rfl rfl <| E.nil <| X.next <| ?_
  refine C.cond' rfl (fun hC0 => ?_) (fun hC0 => ?_)
  ·
    have htl := tab_len k (fun _ => (5 : Int))
    refine C.skip <| X.next <| C.seq <| C.block <| C.region <| E.mv rfl rfl <| ?_
    refine E.pushM (enc := i64) 0 (5 : Int) hM rfl rfl rfl Tryd.underlying29 elem_Tint rfl (by omega) (by omega) (by simp) rfl rfl ?_
    intro v9 u9 w1 hM
    try dsimp only [List.nil_append, List.cons_append, List.set_cons_zero, List.set_cons_succ, repl] at hM
    refine E.asg rfl rfl <| E.nil <| X.outN <| X.next <| C.region <| E.mv rfl rfl <| ?_
    refine E.addN (a := k) (b := 1) rfl rfl (by omega) rfl ?_

    refine E.asg rfl rfl <| E.nil <| X.again2 (k + 1) v9 (Sub.cons rfl <| Sub.cons rfl <| Sub.nil _) rfl ⟨hM.to (by rw [tab_succ]), by omega⟩ (by omega)
  ·
    obtain rfl : k = 32 := by omega
    refine C.exit <| X.exitT <| X.exitT <| X.outE <| X.next <| C.seq <| C.region <| E.mv rfl rfl <| E.asg rfl rfl <| E.nil <| X.next <| C.ret <| ret1 rfl rfl ?_
    exact hM.to (by rw [Df.fixD, Df.nz_tab]; rfl)

theorem rorder_ret (w : World) :
    Ret Tryd.prog 58 #[] w fun v w' => M w Nn w' [Rg.sl i64 3 v (nz Df.ordL)] := by
  have hM := M.start w
  refine enter Tryd.func58 rfl (by kernel_rfl) Tryd.ntmps58 rfl ?_
  refine C.seq <| C.region <| E.asg rfl rfl <| E.nil <| X.next <| C.seq <| C.region <| ?_
  refine E.mkM (enc := i64) (e := 3) (nz Df.ordL) hM rfl (fun _ => by kernel_rfl) rfl rfl rfl ?_
  intro v1 w0 hM
  try dsimp only [List.nil_append, List.cons_append, List.set_cons_zero, List.set_cons_succ, repl] at hM
  refine E.asg rfl rfl <| E.nil <| X.next <| C.ret <| ret1 rfl rfl ?_
  exact hM

end Go.Proofs.YtcmgbjmcklfkcaaDoor
