/- the reference's reader: a sequence of lengths. -/
import Derived.Test.YtajklleiifhipaaGreatDoorY0
import Derived.Test.YtajklleiifhipaaGreatDoorY5
import Derived.Test.YtajklleiifhipaaGreatDoorPg31Y
set_option linter.unusedSimpArgs false
set_option linter.unusedVariables false
namespace Go.Proofs.YtajklleiifhipaaGreatDoor
open Go.RowKit Sym
abbrev LNr := List Nat
abbrev nlr : Value := .slice none 0 0
theorem nz_rsn (O : List Nat) (i va : Nat) : nz (O ++ List.replicate i va) ++ [(va : Int)] = nz (O ++ List.replicate (i + 1) va) := by
 rw [List.replicate_succ', ← List.append_assoc]; simp [nz]
namespace Df
theorem SL.start {C : List Nat} {n : Nat} {B : List Bool} {e : Int} {a : Nat} : SL C n B (rln C n [] B a) e [] a e := by
 by_cases h : e = 0
 · exact .inr (.inl ⟨h, h, rfl⟩)
 exact .inl ⟨h, rfl⟩
theorem SL.stop {C : List Nat} {n : Nat} {B : List Bool} {T : Except Int (List Nat × Nat)} {e ee : Int} {O : List Nat} {a aa : Nat} (h : SL C n B T e O aa ee) (hc : ¬ ((O.length : Int) < n ∧ ee = 0)) : RS e T O O a aa ee := by
  rcases h with ⟨h1, h2⟩ | ⟨h1, h2, h3⟩ | ⟨h1, h2, h3⟩
  · exact .inl ⟨h1, h2, rfl⟩
  · rw [rln_end (fun q => hc ⟨by omega, h2⟩)] at h3
    exact .inr (.inl ⟨h1, h2, h3.symm⟩)
  exact .inr (.inr ⟨h1, h2, h3, rfl⟩)
theorem SL.none {C : List Nat} {n a1 aa : Nat} {B : List Bool} {T : Except Int (List Nat × Nat)} {O : List Nat} (hT : rln C n O B aa = T) (hO : O.length < n) (h0 : O.length = 0) (hr : rsym C B aa = .ok (16, a1)) : T = .error 9 := by
 rw [← hT, rln_on hO, bnd_ok hr, if_neg (by decide), if_pos ⟨rfl, h0⟩]
end Df
set_option maxHeartbeats 4000000 in
set_option maxRecDepth 4000 in
theorem sequence34_ret (vC : Value) (G : List Nat) (n : Nat) (b a lim : Nat) (p vo : Value) (e : Int) (l : List UInt8) (w : World) (hs : Sep w [Rg.blk b 107 [p, i64 ((a : Nat) : Int), vo, i64 (lim : Int), i64 e]]) (hp : RdL u8 w p l) (ho : Off (fpU [Rg.blk b 107 [p, i64 ((a : Nat) : Int), vo, i64 (lim : Int), i64 e]]) p l) (ha : a ≤ 8 * l.length) (hl : l.length ≤ 1099511627776) (hC : RdL i64 w vC (nz G)) (hoC : Off (fpU [Rg.blk b 107 [p, i64 ((a : Nat) : Int), vo, i64 (lim : Int), i64 e]]) vC (nz G)) (hcC : e = 0 → Df.Code G) (h19 : G.length = 19) (hn : n ≤ 1000) :
  Ret Tryz.prog 124 #[pv b, vC, i64 n] w fun v w' => ∃ (O : List Nat) (a' : Nat) (e' : Int), M w (fpU [Rg.blk b 107 [p, i64 ((a : Nat) : Int), vo, i64 (lim : Int), i64 e]]) w' [Rg.blk b 107 [p, i64 ((a' : Nat) : Int), vo, i64 (lim : Int), i64 e'], Rg.sl i64 3 v (nz O)] ∧ RS e (Df.rln G n [] (Df.ub l) a) O O a a' e' ∧ a ≤ a' ∧ a' ≤ 8 * l.length ∧ (∀ x ∈ O, x ≤ 15) ∧ (e' = 0 → O.length = n) := by
 have hM := M.startS hs
 refine enter Tryz.func124 rfl (by kernel_rfl) Tryz.ntmps124 rfl $ Kb $ Kd rfl $ Kc rfl $ C.seq $ C.block $ ?_
 have hul := Df.ub_len l
 have hM := hM.nil i64 3
 try dsimp only [Za, Zb, Zc, Zd, repl] at hM
 refine C.loop4 [(0, _), (1, _), (2, _)] rfl (fun (vs : Value) (O : LNr) (aa : Nat) (ee : Int) => [(7, vs)]) (fun (vs : Value) (O : LNr) (aa : Nat) (ee : Int) w' => M w (fpU [Rg.blk b 107 [p, i64 ((a : Nat) : Int), vo, i64 (lim : Int), i64 e]]) w' [Rg.blk b 107 [p, i64 ((aa : Nat) : Int), vo, i64 (lim : Int), i64 ee], Rg.sl i64 3 vs (nz O)] ∧ Df.SL G n (Df.ub l) (Df.rln G n [] (Df.ub l) a) e O aa ee ∧ a ≤ aa ∧ aa ≤ 8 * l.length ∧ O.length ≤ n ∧ (∀ x ∈ O, x ≤ 15)) (fun (vs : Value) (O : LNr) (aa : Nat) (ee : Int) => Df.SM ee n O.length) nlr [] a e ?_ ?_ ?_
 · exact S1 rfl
 · exact ⟨hM.to rfl, .start, Nat.le_refl _, ha, Nat.zero_le _, fun x hx => by cases hx⟩
 rintro vs O aa ee w0 ⟨hM, hSL, haa, hab, hOn, hbo⟩
 refine C.seq $ C.chainE [(0, _), (1, _), (2, _), (7, _)] rfl [(22, .bool (decide ((O.length : Int) < n ∧ ee = 0)))] ?_ ?_
 ·
  refine C.region $ Km rfl $ E.lenv rfl (Rd.shape (hM.sl 1 rfl)) U76 rfl ?_
  rw [nz_len]
  refine Km rfl $ Kp rfl $ Km rfl $ E.split 16 rfl (fun g16 => ?_) (fun g16 => ?_)
  ·
   try simp only [Ya, Yb, Yc, Yd, Ye, Yf] at g16
   refine Ko rfl $ Km rfl $ Ko rfl $ E.nilc rfl rfl $ Ko rfl $ E.fld (o := 4) (sz := 0) rfl U107 rfl rfl (by kernel_rfl) rfl $ Ko rfl $ E.load rfl U26 rfl (hM.bcell 0 rfl rfl) rfl $ Ko rfl $ Kp rfl $ Kr rfl $ E.nil $ X.join0 (Sub.cons (look_eq rfl (congrArg Value.bool (by exact decide_eq_decide.2 ⟨fun h => by omega, fun h => by omega⟩))) $ Sub.nil _) rfl rfl
  try simp only [Ya, Yb, Yc, Yd, Ye, Yf] at g16
  refine Kq rfl $ Kq rfl $ Kq rfl $ Kq rfl $ Kq rfl $ Kr rfl $ E.nil $ X.join0 (Sub.cons (look_eq rfl (congrArg Value.bool (by exact (decide_eq_false (by omega)).symm))) $ Sub.nil _) rfl rfl
 refine C.cond' rfl (fun hC0 => ?_) (fun hC0 => ?_)
 ·
  obtain rfl : ee = 0 := hC0.2
  have hO : O.length < n := by omega
  obtain ⟨he, hT⟩ := hSL.on
  have hcode := hcC he
  refine Kk $ C.block $ Kb $ Kf rfl $ E.call rfl rfl (symbol34_ret vC G b aa lim p vo 0 l _ (hM.pick [0] (by decide)).sep (hM.arg hp ho) ((hM.pick [0] (by decide)).offS hp ho) (by omega) hl (hM.arg hC hoC) ((hM.pick [0] (by decide)).offS hC hoC) hcode (by omega)) ?_
  rintro _ w1 ⟨x1, a1, e1, rfl, m1, hr1, ha1, hb1⟩
  have hM := hM.calls [0] (by decide) rfl (by simp) m1
  try dsimp only [Za, Zb, Zc, Zd, repl] at hM
  have hx18 : x1 < 19 := by
   rcases hr1.val with h | ⟨_, _, h⟩
   · omega
   rw [← h19]; exact Df.rsym_lt h
  try dsimp only [Za, Zb, Zc, Zd, repl] at hM
  refine Kd rfl $ Kd rfl $ Km rfl $ Kc rfl $ C.cut4 [(0, _), (1, _), (2, _), (7, _)] rfl (fun (ag : Nat) (va : Nat) (a2 : Nat) (e2 : Int) => [(9, i64 ag), (10, i64 va)]) (fun (ag : Nat) (va : Nat) (a2 : Nat) (e2 : Int) w' => M w (fpU [Rg.blk b 107 [p, i64 ((a : Nat) : Int), vo, i64 (lim : Int), i64 e]]) w' [Rg.blk b 107 [p, i64 ((a2 : Nat) : Int), vo, i64 (lim : Int), i64 e2], Rg.sl i64 3 vs (nz O)] ∧ Df.SV G n (Df.ub l) (Df.rln G n [] (Df.ub l) a) O ag va a2 e2 ∧ a1 ≤ a2 ∧ a2 ≤ 8 * l.length) ?_ ?_
  ·
   refine Kb $ Km rfl $ Ka $ C.block $ Kb $ Kp rfl $ Kc rfl $ C.cond' rfl (fun hC1 => ?_) (fun hC1 => ?_)
   ·
    obtain ⟨_, rfl, k1⟩ := hr1.val.resolve_left (fun q => by omega)
    obtain rfl : x1 = 16 := by omega
    refine C.seq $ C.chainE [(0, _), (1, _), (2, _), (7, _)] rfl [(39, .bool (decide ((O.length : Int) = 0)))] ?_ ?_
    ·
     refine C.region $ Km rfl $ E.lenv rfl (Rd.shape (hM.sl 1 rfl)) U76 rfl ?_
     rw [nz_len]
     refine Kp rfl $ Km rfl $ E.split 33 rfl (fun g33 => ?_) (fun g33 => ?_)
     ·
      try simp only [Ya, Yb, Yc, Yd, Ye, Yf] at g33
      refine Ko rfl $ Km rfl $ Ko rfl $ E.nilc rfl rfl $ Ko rfl $ E.fld (o := 4) (sz := 0) rfl U107 rfl rfl (by kernel_rfl) rfl $ Ko rfl $ E.load rfl U26 rfl (hM.bcell 0 rfl rfl) rfl $ Ko rfl $ Kp rfl $ Kr rfl $ E.nil $ X.join0 (Sub.cons (look_eq rfl (congrArg Value.bool (by exact (decide_eq_true (by omega)).symm))) $ Sub.nil _) rfl rfl
     try simp only [Ya, Yb, Yc, Yd, Ye, Yf] at g33
     refine Kq rfl $ Kq rfl $ Kq rfl $ Kq rfl $ Kq rfl $ Kr rfl $ E.nil $ X.join0 (Sub.cons (look_eq rfl (congrArg Value.bool (by exact (decide_eq_false (by omega)).symm))) $ Sub.nil _) rfl rfl
    refine C.cond' rfl (fun hC2 => ?_) (fun hC2 => ?_)
    ·
     refine Kb $ Km rfl $ E.call rfl rfl (fail34_ret b a1 lim p vo 0 9 _ (hM.pick [0] (by decide)).sep) ?_
     rintro _ w2 m2
     have hM := hM.calls [0] (by decide) rfl (by simp) m2
     try dsimp only [Za, Zb, Zc, Zd, repl] at hM
     try dsimp only [Za, Zb, Zc, Zd, repl] at hM
     refine Ke $ Kc rfl $ C.ret $ X.retT $ X.retB $ X.retT $ X.retB $ X.retT $ X.retB $ X.retT $ ret1 rfl rfl ?_
     exact ⟨[], a1, fst 0 9, ((hM.pick [0] (by decide)).nil i64 3).to rfl, by rw [fst_z]; exact .err he (by decide) (Df.SL.none hT hO (by omega) k1), by omega, hb1, fun x hx => (by cases hx), fun q => (by rw [fst_z] at q; cases q)⟩
    have hO1 : O.length - 1 < O.length := by omega
    refine Kk $ Kb $ Km rfl $ E.call rfl rfl (bits34_ret 2 b a1 lim p vo 0 l _ (hM.pick [0] (by decide)).sep (hM.arg hp ho) ((hM.pick [0] (by decide)).offS hp ho) (by omega) hl (by decide)) ?_
    rintro _ w3 ⟨x3, a3, e3, rfl, m3, hr3, ha3, hb3⟩
    have hM := hM.calls [0] (by decide) rfl (by simp) m3
    try dsimp only [Za, Zb, Zc, Zd, repl] at hM
    have hx3 := hr3.bits_lt
    try dsimp only [Za, Zb, Zc, Zd, repl] at hM
    refine E.addN (a := 3) (b := x3) rfl rfl (by omega) rfl $ Kd rfl $ Kd rfl $ Km rfl $ E.lenv rfl (Rd.shape (hM.sl 1 rfl)) U76 rfl ?_
    rw [nz_len]
    refine Kp rfl $ Ka $ C.cond' rfl (fun hC3 => ?_) (fun hC3 => ?_)
    ·
     refine C.region $ Kf rfl $ E.lenv rfl (Rd.shape (hM.sl 1 rfl)) U76 rfl ?_
     rw [nz_len]
     refine E.subN (a := O.length) (b := 1) rfl rfl (by omega) rfl $ E.get (k := O.length - 1) rfl rfl (hM.sl 1 rfl) rfl (by rw [nz_len]; exact hO1) U76 (by kernel_rfl) U3 rfl rfl rfl ?_
     rw [nz_get hO1]
     refine Kn rfl $ E.nil $ X.outN $ X.join4 (3 + x3) (O[O.length - 1]'hO1) a3 e3 (Sub.cons rfl $ S1 rfl) rfl ⟨hM, .rep hO hT k1 (by decide) (by omega) hbo hr3 rfl (by unfold Df.lsv; rw [if_pos rfl, List.getD_eq_getElem?_getD, List.getElem?_eq_getElem hO1]; rfl), ha3, hb3⟩
    omega
   refine Kb $ Kp rfl $ Kc rfl $ C.cond' rfl (fun hC4 => ?_) (fun hC4 => ?_)
   ·
    obtain ⟨_, rfl, k1⟩ := hr1.val.resolve_left (fun q => by omega)
    obtain rfl : x1 = 17 := by omega
    refine Kb $ Km rfl $ E.call rfl rfl (bits34_ret 3 b a1 lim p vo 0 l _ (hM.pick [0] (by decide)).sep (hM.arg hp ho) ((hM.pick [0] (by decide)).offS hp ho) (by omega) hl (by decide)) ?_
    rintro _ w4 ⟨x4, a4, e4, rfl, m4, hr4, ha4, hb4⟩
    have hM := hM.calls [0] (by decide) rfl (by simp) m4
    try dsimp only [Za, Zb, Zc, Zd, repl] at hM
    have hx4 := hr4.bits_lt
    try dsimp only [Za, Zb, Zc, Zd, repl] at hM
    refine E.addN (a := 3) (b := x4) rfl rfl (by omega) rfl $ Kc rfl $ C.region $ Kn rfl $ E.nil $ X.outN $ X.join4 (3 + x4) 0 a4 e4 (Sub.cons rfl $ S1 rfl) rfl ⟨hM, .rep hO hT k1 (by decide) (by omega) hbo hr4 rfl rfl, ha4, hb4⟩
   refine Kb $ Kp rfl $ Kc rfl $ C.cond' rfl (fun hC5 => ?_) (fun hC5 => ?_)
   ·
    obtain ⟨_, rfl, k1⟩ := hr1.val.resolve_left (fun q => by omega)
    obtain rfl : x1 = 18 := by omega
    refine Kb $ Km rfl $ E.call rfl rfl (bits34_ret 7 b a1 lim p vo 0 l _ (hM.pick [0] (by decide)).sep (hM.arg hp ho) ((hM.pick [0] (by decide)).offS hp ho) (by omega) hl (by decide)) ?_
    rintro _ w5 ⟨x5, a5, e5, rfl, m5, hr5, ha5, hb5⟩
    have hM := hM.calls [0] (by decide) rfl (by simp) m5
    try dsimp only [Za, Zb, Zc, Zd, repl] at hM
    have hx5 := hr5.bits_lt
    try dsimp only [Za, Zb, Zc, Zd, repl] at hM
    refine E.addN (a := 11) (b := x5) rfl rfl (by omega) rfl $ Kc rfl $ C.region $ Kn rfl $ E.nil $ X.outN $ X.join4 (11 + x5) 0 a5 e5 (Sub.cons rfl $ S1 rfl) rfl ⟨hM, .rep hO hT k1 (by decide) (by omega) hbo hr5 rfl rfl, ha5, hb5⟩
   refine C.skip $ X.outN $ X.join4 1 x1 a1 e1 (Sub.cons rfl $ S1 rfl) rfl ⟨hM, .lit hO hT hr1 (by omega), Nat.le_refl _, hb1⟩
  rintro ag va a2 e2 w6 ⟨hM, hsv, hg1, hg2⟩
  obtain ⟨hag1, hag2, hva, _⟩ := id hsv
  refine C.cut1 [(0, _), (1, _), (2, _), (7, _), (9, _), (10, _)] rfl (fun (ef : Int) => []) (fun (ef : Int) w' => M w (fpU [Rg.blk b 107 [p, i64 ((a : Nat) : Int), vo, i64 (lim : Int), i64 e]]) w' [Rg.blk b 107 [p, i64 ((a2 : Nat) : Int), vo, i64 (lim : Int), i64 ef], Rg.sl i64 3 vs (nz O)] ∧ (¬ ef = 0 → (Df.rln G n [] (Df.ub l) a) = .error ef) ∧ (ef = 0 → O.length + ag ≤ n ∧ (Df.rln G n [] (Df.ub l) a) = Df.rln G n (O ++ List.replicate ag va) (Df.ub l) a2)) ?_ ?_
  ·
   refine Kb $ Km rfl $ E.lenv rfl (Rd.shape (hM.sl 1 rfl)) U76 rfl ?_
   rw [nz_len]
   refine Km rfl $ E.addN (a := O.length) (b := ag) rfl rfl (by omega) rfl $ Km rfl $ Kp rfl $ Ka $ C.cond' rfl (fun hC6 => ?_) (fun hC6 => ?_)
   ·
    refine C.region $ Km rfl $ E.call rfl rfl (fail34_ret b a2 lim p vo e2 9 _ (hM.pick [0] (by decide)).sep) ?_
    rintro _ w7 m7
    have hM := hM.calls [0] (by decide) rfl (by simp) m7
    try dsimp only [Za, Zb, Zc, Zd, repl] at hM
    try dsimp only [Za, Zb, Zc, Zd, repl] at hM
    refine E.nil $ X.join1 (fst e2 9) (Sub.nil _) rfl ⟨hM, by have h := hsv.fst; rw [if_pos (by omega)] at h; exact h⟩
   refine C.skip $ X.join1 e2 (Sub.nil _) rfl ⟨hM, by have h := hsv.fst; rw [if_neg (by omega)] at h; exact h⟩
  rintro ef w8 ⟨hM, hf1, hf2⟩
  refine Kb $ Kc rfl $ C.block $ C.loop2 [(0, _), (1, _), (2, _), (9, _), (10, _)] rfl (fun (i : Nat) (vk : Value) => [(7, vk), (11, i64 i)]) (fun (i : Nat) (vk : Value) w' => M w (fpU [Rg.blk b 107 [p, i64 ((a : Nat) : Int), vo, i64 (lim : Int), i64 e]]) w' [Rg.blk b 107 [p, i64 ((a2 : Nat) : Int), vo, i64 (lim : Int), i64 ef], Rg.sl i64 3 vk (nz (O ++ List.replicate i va))] ∧ i ≤ ag ∧ (i = 0 ∨ ef = 0)) (fun (i : Nat) (vk : Value) => ag - i) 0 vs ?_ ?_ ?_
  · exact Sub.cons rfl $ S1 rfl
  · exact ⟨hM.to (by rw [List.replicate_zero, List.append_nil]), Nat.zero_le _, .inl rfl⟩
  rintro i vk w9 ⟨hM, hi, hz⟩
  refine C.seq $ C.chainE [(0, _), (1, _), (2, _), (7, _), (9, _), (10, _), (11, _)] rfl [(81, .bool (decide ((i : Int) < ag ∧ ef = 0)))] ?_ ?_
  ·
   refine C.region $ Kf rfl $ Kp rfl $ Km rfl $ E.split 75 rfl (fun g75 => ?_) (fun g75 => ?_)
   ·
    try simp only [Ya, Yb, Yc, Yd, Ye, Yf] at g75
    refine Ko rfl $ Km rfl $ Ko rfl $ E.nilc rfl rfl $ Ko rfl $ E.fld (o := 4) (sz := 0) rfl U107 rfl rfl (by kernel_rfl) rfl $ Ko rfl $ E.load rfl U26 rfl (hM.bcell 0 rfl rfl) rfl $ Ko rfl $ Kp rfl $ Kr rfl $ E.nil $ X.join0 (Sub.cons (look_eq rfl (congrArg Value.bool (by exact decide_eq_decide.2 ⟨fun h => by omega, fun h => by omega⟩))) $ Sub.nil _) rfl rfl
   try simp only [Ya, Yb, Yc, Yd, Ye, Yf] at g75
   refine Kq rfl $ Kq rfl $ Kq rfl $ Kq rfl $ Kq rfl $ Kr rfl $ E.nil $ X.join0 (Sub.cons (look_eq rfl (congrArg Value.bool (by exact (decide_eq_false (by omega)).symm))) $ Sub.nil _) rfl rfl
  refine C.cond' rfl (fun hC7 => ?_) (fun hC7 => ?_)
  ·
   have hnl : (nz (O ++ List.replicate i va)).length = O.length + i := by rw [nz_len, List.length_append, List.length_replicate]
   have hef := (hf2 hC7.2).1
   have hsn := nz_rsn O i va
   refine Kk $ C.seq $ C.block $ C.region $ Kf rfl $ E.pushM 1 (va : Int) hM rfl rfl rfl U76 elem_Tint rfl (by omega) (by omega) (by simp) rfl rfl ?_
   intro v87 u87 w10 hM
   try dsimp only [Za, Zb, Zc, Zd, repl] at hM
   refine Kn rfl $ E.nil $ X.outN $ X.next $ C.region $ Km rfl $ E.addN (a := i) (b := 1) rfl rfl (by omega) rfl $ Kn rfl $ E.nil $ X.again2 (i + 1) v87 (Sub.cons rfl $ S1 rfl) rfl ⟨hM.to (by rw [hsn]), by omega, .inr hC7.2⟩ (by omega)
  have hia : ef = 0 → i = ag := fun q => by have : ¬ (i : Int) < ag := fun r => hC7 ⟨r, q⟩; omega
  have hll : (O ++ List.replicate i va).length = O.length + i := by rw [List.length_append, List.length_replicate]
  have hSL2 : Df.SL G n (Df.ub l) (Df.rln G n [] (Df.ub l) a) e (O ++ List.replicate i va) a2 ef := by
   by_cases q : ef = 0
   · rw [hia q]; exact .inr (.inl ⟨he, q, (hf2 q).2.symm⟩)
   exact .inr (.inr ⟨he, q, hf1 q⟩)
  have hle2 : O.length + i ≤ n := by
   by_cases q : ef = 0
   · rw [hia q]; exact (hf2 q).1
   rw [hz.resolve_right q]; omega
  refine C.exit $ X.exitT $ X.exitT $ X.outE $ X.outN $ X.again4 vk _ a2 ef (S1 rfl) rfl ⟨hM, hSL2, by omega, hg2, by omega, bd_rep hbo hva⟩ (Df.SM_lt (fun q => by have := hia q; omega) hO)
 refine Kx $ Kb $ Km rfl $ Kc rfl $ C.ret $ ret1 rfl rfl ?_
 exact ⟨O, aa, ee, hM, hSL.stop hC0, haa, hab, hbo, fun q => by have : ¬ (O.length : Int) < n := fun r => hC0 ⟨r, q⟩; omega⟩
end Go.Proofs.YtajklleiifhipaaGreatDoor
