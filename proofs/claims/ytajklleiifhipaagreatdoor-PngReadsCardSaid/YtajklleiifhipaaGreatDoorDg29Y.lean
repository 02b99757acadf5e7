/- barscanref34: lengths and distances, fixed codes. -/
import Derived.Test.YtajklleiifhipaaGreatDoorY0
import Derived.Test.YtajklleiifhipaaGreatDoorY5
import Derived.Test.YtajklleiifhipaaGreatDoorY18
set_option linter.unusedSimpArgs false
set_option linter.unusedVariables false
namespace Go.Proofs.YtajklleiifhipaaGreatDoor
open Go.RowKit Sym
namespace Df
end Df
theorem rpower_ret (n : Nat) (w : World) (hn : n ≤ 30) :
  Ret Tryz.prog 103 #[i64 n] w fun v w' => v = i64 ((2 ^ n : Nat) : Int) ∧ Ext w w' := by
 have hM := M.start w
 refine enter Tryz.func103 rfl (by kernel_rfl) Tryz.ntmps103 rfl $ Kb $ Kd rfl $ Kc rfl $ C.seq $ Kb $ Kc rfl $ C.block $ C.loop1 [(0, _)] rfl (fun (i : Nat) => [(3, i64 ((2 ^ i : Nat) : Int)), (4, i64 i)]) (fun (i : Nat) w' => M w (Nn) w' [] ∧ i ≤ n) (fun (i : Nat) => n - i) 0 ?_ ?_ ?_
 · exact Sub.cons rfl $ S1 rfl
 · exact ⟨hM, Nat.zero_le _⟩
 rintro i w0 ⟨hM, hi⟩
 refine C.seq $ Kb $ Kf rfl $ Kp rfl $ Ka $ C.cond' rfl (fun hC0 => ?_) (fun hC0 => ?_)
 ·
  have hp : 2 ^ i ≤ 2 ^ 30 := Nat.pow_le_pow_right (by decide) (by omega)
  refine Kk $ C.seq $ C.block $ C.region $ Km rfl $ E.mulN (a := 2) (b := 2 ^ i) rfl rfl (by omega) rfl $ Kn rfl $ E.nil $ X.outN $ X.next $ C.region $ Km rfl $ E.addN (a := i) (b := 1) rfl rfl (by omega) rfl $ Kn rfl $ E.nil $ X.again1 (i + 1) (Sub.cons (look_val rfl (by rw [Nat.pow_succ, Nat.mul_comm])) $ S1 rfl) rfl ⟨hM, by omega⟩ (by omega)
 obtain rfl : i = n := by omega
 refine Kx $ Kb $ Km rfl $ Kc rfl $ C.ret $ ret1 rfl rfl ?_
 exact ⟨rfl, hM.toExt⟩
theorem rlengthOf_ret (s : Nat) (w : World) (h1 : 257 ≤ s) (h2 : s ≤ 285) :
  Ret Tryz.prog 120 #[i64 s] w fun v w' => v = .tuple #[i64 (Df.lxt s : Int), i64 (Df.lls s : Int)] ∧ Ext w w' := by
 have hM := M.start w
 refine enter Tryz.func120 rfl (by kernel_rfl) Tryz.ntmps120 rfl $ Kb $ Kn rfl $ Kc rfl $ C.seq $ Kb $ Km rfl $ Kp rfl $ Ka $ C.cond' rfl (fun hC0 => ?_) (fun hC0 => ?_)
 ·
  refine Kb $ Kn rfl $ Kc rfl $ C.ret $ X.retT $ ret2 rfl rfl rfl ?_
  exact ⟨by (have e : s = 285 := (by omega)); subst e; rfl, hM.toExt⟩
 refine Kk $ C.seq $ Kb $ Km rfl $ Kp rfl $ Ka $ C.cond' rfl (fun hC1 => ?_) (fun hC1 => ?_)
 ·
  refine Kb $ Km rfl $ E.subN (a := s) (b := 254) rfl rfl (by omega) rfl $ Kn rfl $ Kc rfl $ C.ret $ X.retT $ ret2 rfl rfl rfl ?_
  exact ⟨by rw [Df.lxt, if_neg (by omega), if_pos (by omega), Df.lls, if_neg (by omega), if_pos (by omega)]; rfl, hM.toExt⟩
 refine Kk $ Kb $ Km rfl $ E.subN (a := s) (b := 261) rfl rfl (by omega) rfl $ E.quo rfl rfl (by omega) (quoN (a := s - 261) (b := 4) (by omega) (by omega)) rfl $ Kd rfl $ Kf rfl $ E.subN (a := s) (b := 257) rfl rfl (by omega) rfl $ E.rem rfl rfl (by omega) (remN (a := s - 257) (b := 4)) rfl $ E.addN (a := 4) (b := (s - 257) % 4) rfl rfl (by omega) rfl $ Km rfl $ E.call rfl rfl (rpower_ret ((s - 261) / 4) _ (by omega)) ?_
 rintro _ w1 ⟨rfl, x1⟩
 have hM := hM.ext x1
 have hp : 2 ^ ((s - 261) / 4) ≤ 2 ^ 6 := Nat.pow_le_pow_right (by decide) (by omega)
 have hp2 := Nat.mul_le_mul (show 4 + (s - 257) % 4 ≤ 7 by omega) hp
 refine E.mulN (a := 4 + (s - 257) % 4) (b := 2 ^ ((s - 261) / 4)) rfl rfl (by omega) rfl $ E.addN (a := 3) (b := (4 + (s - 257) % 4) * 2 ^ ((s - 261) / 4)) rfl rfl (by omega) rfl $ Kn rfl $ Kc rfl $ C.ret $ ret2 rfl rfl rfl ?_
 exact ⟨by rw [Df.lxt, Df.lls, if_neg (by omega), if_neg (by omega), if_neg (by omega), if_neg (by omega), show (s - 261) % 4 = (s - 257) % 4 by omega], hM.toExt⟩
theorem rdistanceOf_ret (s : Nat) (w : World) (h2 : s ≤ 29) :
  Ret Tryz.prog 121 #[i64 s] w fun v w' => v = .tuple #[i64 (Df.dxt s : Int), i64 (Df.dls s : Int)] ∧ Ext w w' := by
 have hM := M.start w
 refine enter Tryz.func121 rfl (by kernel_rfl) Tryz.ntmps121 rfl $ Kb $ Kn rfl $ Kc rfl $ C.seq $ Kb $ Km rfl $ Kp rfl $ Ka $ C.cond' rfl (fun hC0 => ?_) (fun hC0 => ?_)
 ·
  refine Kb $ Km rfl $ E.addN (a := s) (b := 1) rfl rfl (by omega) rfl $ Kn rfl $ Kc rfl $ C.ret $ X.retT $ ret2 rfl rfl rfl ?_
  exact ⟨by rw [Df.dxt, Df.dls, if_pos (by omega), if_pos (by omega)]; rfl, hM.toExt⟩
 refine Kk $ Kb $ Km rfl $ E.quo rfl rfl (by omega) (quoN (a := s) (b := 2) (by omega) (by omega)) rfl $ E.subN (a := s / 2) (b := 1) rfl rfl (by omega) rfl $ Kd rfl $ Kf rfl $ E.rem rfl rfl (by omega) (remN (a := s) (b := 2)) rfl $ E.addN (a := 2) (b := s % 2) rfl rfl (by omega) rfl $ Km rfl $ E.call rfl rfl (rpower_ret (s / 2 - 1) _ (by omega)) ?_
 rintro _ w1 ⟨rfl, x1⟩
 have hM := hM.ext x1
 have hp : 2 ^ (s / 2 - 1) ≤ 2 ^ 13 := Nat.pow_le_pow_right (by decide) (by omega)
 have hp2 := Nat.mul_le_mul (show 2 + s % 2 ≤ 3 by omega) hp
 refine E.mulN (a := 2 + s % 2) (b := 2 ^ (s / 2 - 1)) rfl rfl (by omega) rfl $ E.addN (a := 1) (b := (2 + s % 2) * 2 ^ (s / 2 - 1)) rfl rfl (by omega) rfl $ Kn rfl $ Kc rfl $ C.ret $ ret2 rfl rfl rfl ?_
 exact ⟨by rw [Df.dxt, Df.dls, if_neg (by omega), if_neg (by omega)], hM.toExt⟩
theorem rfixL_ret (w : World) :
  Ret Tryz.prog 75 #[] w fun v w' => M w Nn w' [Rg.sl i64 3 v (nz Df.fixL)] := by
 have hM := M.start w
 refine enter Tryz.func75 rfl (by kernel_rfl) Tryz.ntmps75 rfl $ Kb $ Kd rfl $ Kc rfl $ C.seq $ Kb $ Kc rfl $ C.block $ ?_
 have hM := hM.nil i64 3
 try dsimp only [Za, Zb, Zc, Zd, repl] at hM
 refine C.loop2 [] rfl (fun (k : Nat) (v1 : Value) => [(1, v1), (2, i64 k)]) (fun (k : Nat) (v1 : Value) w' => M w (Nn) w' [Rg.sl i64 3 v1 (tab k (fun i => (Df.fxl i : Int)))] ∧ k ≤ 288) (fun (k : Nat) (v1 : Value) => 288 - k) 0 (.slice none 0 0) ?_ ?_ ?_
 · exact Sub.cons rfl $ S1 rfl
 · exact ⟨hM, by omega⟩
 rintro k v1 w0 ⟨hM, hk⟩
 refine C.seq $ Kb $ Km rfl $ Kp rfl $ Ka $ C.cond' rfl (fun hC0 => ?_) (fun hC0 => ?_)
 ·
  have htl := tab_len k (fun i => (Df.fxl i : Int))
  refine Kk $ C.cut1 [(2, _)] rfl (fun (v1 : Value) => [(1, v1)]) (fun (v1 : Value) w' => M w (Nn) w' [Rg.sl i64 3 v1 (tab (k + 1) (fun i => (Df.fxl i : Int)))]) ?_ ?_
  ·
   refine C.block $ C.block $ Kb $ Km rfl $ Kp rfl $ Kc rfl $ C.cond' rfl (fun hC1 => ?_) (fun hC1 => ?_)
   ·
    refine C.region $ Km rfl $ E.pushM (enc := i64) 0 (8 : Int) hM rfl rfl rfl U76 elem_Tint rfl (by omega) (by omega) (by simp) rfl rfl ?_
    intro v15 u15 w1 hM
    try dsimp only [Za, Zb, Zc, Zd, repl] at hM
    refine Kn rfl $ E.nil $ X.outN $ X.outN $ X.join1 v15 (S1 rfl) rfl (hM.to (by rw [tab_succ, show ((Df.fxl k : Nat) : Int) = 8 by unfold Df.fxl; split <;> (try split) <;> (try split) <;> omega]))
   refine Kb $ Km rfl $ Kp rfl $ Kc rfl $ C.cond' rfl (fun hC2 => ?_) (fun hC2 => ?_)
   ·
    refine C.region $ Km rfl $ E.pushM (enc := i64) 0 (9 : Int) hM rfl rfl rfl U76 elem_Tint rfl (by omega) (by omega) (by simp) rfl rfl ?_
    intro v21 u21 w2 hM
    try dsimp only [Za, Zb, Zc, Zd, repl] at hM
    refine Kn rfl $ E.nil $ X.outN $ X.outN $ X.join1 v21 (S1 rfl) rfl (hM.to (by rw [tab_succ, show ((Df.fxl k : Nat) : Int) = 9 by unfold Df.fxl; split <;> (try split) <;> (try split) <;> omega]))
   refine Kb $ Km rfl $ Kp rfl $ Kc rfl $ C.cond' rfl (fun hC3 => ?_) (fun hC3 => ?_)
   ·
    refine C.region $ Km rfl $ E.pushM (enc := i64) 0 (7 : Int) hM rfl rfl rfl U76 elem_Tint rfl (by omega) (by omega) (by simp) rfl rfl ?_
    intro v27 u27 w3 hM
    try dsimp only [Za, Zb, Zc, Zd, repl] at hM
    refine Kn rfl $ E.nil $ X.outN $ X.outN $ X.join1 v27 (S1 rfl) rfl (hM.to (by rw [tab_succ, show ((Df.fxl k : Nat) : Int) = 7 by unfold Df.fxl; split <;> (try split) <;> (try split) <;> omega]))
   refine C.region $ Km rfl $ E.pushM (enc := i64) 0 (8 : Int) hM rfl rfl rfl U76 elem_Tint rfl (by omega) (by omega) (by simp) rfl rfl ?_
   intro v9 u9 w4 hM
   try dsimp only [Za, Zb, Zc, Zd, repl] at hM
   refine Kn rfl $ E.nil $ X.outN $ X.outN $ X.join1 v9 (S1 rfl) rfl (hM.to (by rw [tab_succ, show ((Df.fxl k : Nat) : Int) = 8 by unfold Df.fxl; split <;> (try split) <;> (try split) <;> omega]))
  rintro v1 w5 hM
  refine C.region $ Km rfl $ E.addN (a := k) (b := 1) rfl rfl (by omega) rfl $ Kn rfl $ E.nil $ X.again2 (k + 1) v1 (Sub.cons rfl $ S1 rfl) rfl ⟨hM, by omega⟩ (by omega)
 obtain rfl : k = 288 := by omega
 refine Kx $ Kb $ Km rfl $ Kc rfl $ C.ret $ ret1 rfl rfl ?_
 exact hM.to (by rw [Df.fixL, Df.nz_tab])
theorem rfixD_ret (w : World) :
  Ret Tryz.prog 76 #[] w fun v w' => M w Nn w' [Rg.sl i64 3 v (nz Df.fixD)] := by
 have hM := M.start w
 refine enter Tryz.func76 rfl (by kernel_rfl) Tryz.ntmps76 rfl $ Kb $ Kd rfl $ Kc rfl $ C.seq $ Kb $ Kc rfl $ C.block $ ?_
 have hM := hM.nil i64 3
 try dsimp only [Za, Zb, Zc, Zd, repl] at hM
 refine C.loop2 [] rfl (fun (k : Nat) (v1 : Value) => [(1, v1), (2, i64 k)]) (fun (k : Nat) (v1 : Value) w' => M w (Nn) w' [Rg.sl i64 3 v1 (tab k (fun _ => (5 : Int)))] ∧ k ≤ 32) (fun (k : Nat) (v1 : Value) => 32 - k) 0 (.slice none 0 0) ?_ ?_ ?_
 · exact Sub.cons rfl $ S1 rfl
 · exact ⟨hM, by omega⟩
 rintro k v1 w0 ⟨hM, hk⟩
 refine C.seq $ Kb $ Km rfl $ Kp rfl $ Ka $ C.cond' rfl (fun hC0 => ?_) (fun hC0 => ?_)
 ·
  have htl := tab_len k (fun _ => (5 : Int))
  refine Kk $ C.seq $ C.block $ C.region $ Km rfl $ E.pushM (enc := i64) 0 (5 : Int) hM rfl rfl rfl U76 elem_Tint rfl (by omega) (by omega) (by simp) rfl rfl ?_
  intro v9 u9 w1 hM
  try dsimp only [Za, Zb, Zc, Zd, repl] at hM
  refine Kn rfl $ E.nil $ X.outN $ X.next $ C.region $ Km rfl $ E.addN (a := k) (b := 1) rfl rfl (by omega) rfl $ Kn rfl $ E.nil $ X.again2 (k + 1) v9 (Sub.cons rfl $ S1 rfl) rfl ⟨hM.to (by rw [tab_succ]), by omega⟩ (by omega)
 obtain rfl : k = 32 := by omega
 refine Kx $ Kb $ Km rfl $ Kc rfl $ C.ret $ ret1 rfl rfl ?_
 exact hM.to (by rw [Df.fixD, Df.nz_tab]; rfl)
theorem rorder_ret (w : World) :
  Ret Tryz.prog 112 #[] w fun v w' => M w Nn w' [Rg.sl i64 3 v (nz Df.ordL)] := by
 have hM := M.start w
 refine enter Tryz.func112 rfl (by kernel_rfl) Tryz.ntmps112 rfl $ Kb $ Kd rfl $ E.mkM (enc := i64) (e := 3) (nz Df.ordL) hM rfl (fun _ => by kernel_rfl) rfl rfl rfl ?_
 intro v1 w0 hM
 refine Kc rfl $ C.ret $ ret1 rfl rfl ?_
 exact hM
end Go.Proofs.YtajklleiifhipaaGreatDoor
