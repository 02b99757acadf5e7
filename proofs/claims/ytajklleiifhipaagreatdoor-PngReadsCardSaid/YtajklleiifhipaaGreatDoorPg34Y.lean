/- the reference's Inflate. -/
import Derived.Test.YtajklleiifhipaaGreatDoorY0
import Derived.Test.YtajklleiifhipaaGreatDoorY5
import Derived.Test.YtajklleiifhipaaGreatDoorY18
import Derived.Test.YtajklleiifhipaaGreatDoorPg29Y
import Derived.Test.YtajklleiifhipaaGreatDoorPg33Y
set_option linter.unusedSimpArgs false
set_option linter.unusedVariables false
namespace Go.Proofs.YtajklleiifhipaaGreatDoor
open Go.RowKit Sym
namespace Df
def IN (lim : Nat) (l : List UInt8) (T : Except Int (List UInt8 × Nat)) (aa : Nat) (o : List UInt8) (ee : Int) (y : Nat) : Prop :=
 o.length ≤ lim ∧ aa ≤ (ub l).length ∧ ((ee ≠ 0 ∧ T = .error ee) ∨ (ee = 0 ∧ y = 0 ∧ rinf lim l o (ub l) aa = T) ∨ (ee = 0 ∧ y = 1 ∧ T = .ok (o, aa)))
theorem IN.on {lim : Nat} {l : List UInt8} {T : Except Int (List UInt8 × Nat)} {aa : Nat} {o : List UInt8} (h : IN lim l T aa o 0 0) : rinf lim l o (ub l) aa = T := by
 rcases h.2.2 with ⟨h1, _⟩ | ⟨_, _, h1⟩ | ⟨_, h1, _⟩
 · exact (h1 rfl).elim
 · exact h1
 cases h1
theorem IN.fin {lim : Nat} {l : List UInt8} {T : Except Int (List UInt8 × Nat)} {aa : Nat} {o : List UInt8} {ee : Int} {y : Nat} (h : IN lim l T aa o ee y) (hc : ¬ ((y : Int) = 0 ∧ ee = 0)) : (ee ≠ 0 ∧ T = .error ee) ∨ (ee = 0 ∧ T = .ok (o, aa)) := by
 rcases h.2.2 with h1 | ⟨h1, h2, _⟩ | ⟨h1, _, h2⟩
 · exact .inl h1
 · exact (hc ⟨by omega, h1⟩).elim
 exact .inr ⟨h1, h2⟩
theorem IN.cut {lim : Nat} {l : List UInt8} {T : Except Int (List UInt8 × Nat)} {aa x2 a2 x3 a3 : Nat} {o : List UInt8} {e2 e3 : Int} (h : IN lim l T aa o 0 0) (h2 : RS 0 (rbits 1 (ub l) aa) x2 0 aa a2 e2) (h3 : RS e2 (rbits 2 (ub l) a2) x3 0 a2 a3 e3) (he : e3 ≠ 0) : T = .error e3 := by
  rw [← h.on]
  by_cases z : e2 = 0
  · subst z
    exact rinf_err (rblk_e2 (h2.rds.good (by decide)) (h3.rds.bad he))
  rw [(h3.bad z).1]; exact rinf_err (rblk_e1 (h2.rds.bad z))
theorem RS.two {lim : Nat} {l : List UInt8} {aa x2 a2 x3 a3 : Nat} {e2 : Int} (h2 : RS 0 (rbits 1 (ub l) aa) x2 0 aa a2 e2) (h3 : RS e2 (rbits 2 (ub l) a2) x3 0 a2 a3 0) : rbits 1 (ub l) aa = .ok (x2, a2) ∧ rbits 2 (ub l) a2 = .ok (x3, a3) := by
  by_cases z : e2 = 0
  · subst z
    exact ⟨h2.rds.good (by decide), h3.rds.good (by decide)⟩
  exact (z (h3.bad z).1.symm).elim
theorem IN.step {lim : Nat} {l : List UInt8} {T : Except Int (List UInt8 × Nat)} {aa x2 a2 k a3 a' : Nat} {o o' : List UInt8} {e' : Int} (h : IN lim l T aa o 0 0) (h1 : rbits 1 (ub l) aa = .ok (x2, a2)) (h2 : rbits 2 (ub l) a2 = .ok (k, a3)) (h3 : Rds (rkin lim l o k (ub l) a3) o' a' e') (ho : o'.length ≤ lim) (ha : a' ≤ (ub l).length) :
    IN lim l T a' o' e' x2 ∧ (e' = 0 → aa < a') := by
  have hb := rblk_rd h1 h2 h3
  have hx := (rbits_lt h1).1
  by_cases z : e' = 0
  · subst z
    have hk := hb.good (by decide)
    have hv := rblk_adv h.2.1 hk
    refine ⟨⟨ho, ha, ?_⟩, fun _ => hv.1⟩
    by_cases c : x2 = 1
    · subst c
      exact .inr (.inr ⟨rfl, rfl, by rw [← h.on]; exact rinf_last hk⟩)
    exact .inr (.inl ⟨rfl, by omega, by rw [← h.on]; exact (rinf_more hk c hv).symm⟩)
  exact ⟨⟨ho, ha, .inl ⟨z, by rw [← h.on]; exact rinf_err (hb.bad z)⟩⟩, fun q => (z q).elim⟩
def IM (e : Int) (y n a : Nat) : Nat := if e = 0 ∧ y = 0 then 8 * n - a + 1 else 0
theorem IM_lt {e : Int} {y n a a1 : Nat} (h : e = 0 → a1 < a) (ha : a ≤ 8 * n) : IM e y n a < IM 0 0 n a1 := by
 unfold IM
 have h0 : (if (0 : Int) = 0 ∧ (0 : Nat) = 0 then 8 * n - a1 + 1 else 0) = 8 * n - a1 + 1 := if_pos ⟨rfl, rfl⟩
 rw [h0]; split
 · rename_i q; have := h q.1; omega
 omega
end Df
set_option maxHeartbeats 8000000 in
set_option maxRecDepth 8000 in
theorem Inflate34_ret (p : Value) (l : List UInt8) (x : Int) (w : World) (hp : RdL u8 w p l) :
  Ret Tryz.prog 57 #[p, i64 x] w fun v w' => ∃ (vo : Value) (out : List UInt8) (n : Nat) (e : Int), v = .tuple #[vo, i64 n, i64 e] ∧ M w Nn w' [Rg.sl u8 5 vo out] ∧ InfV (Df.inf l x) out n e l.length := by
 have hM := M.start w
 refine enter Tryz.func57 rfl (by kernel_rfl) Tryz.ntmps57 rfl $ Kb $ Kn rfl $ Kn rfl $ Kc rfl $ C.seq $ C.chainE [(0, _), (1, _)] rfl [(15, .bool (decide (x < 0 ∨ 16777216 < x)))] ?_ ?_
 ·
  refine C.region $ Km rfl $ Kp rfl $ Km rfl $ E.split 12 rfl (fun g12 => ?_) (fun g12 => ?_)
  ·
   try simp only [Ya, Yb, Yc, Yd, Ye, Yf] at g12
   refine Kq rfl $ Kq rfl $ Kr rfl $ E.nil $ X.join0 (Sub.cons (by exact leaf_t (by omega)) $ Sub.nil _) rfl rfl
  try simp only [Ya, Yb, Yc, Yd, Ye, Yf] at g12
  refine Ko rfl $ Km rfl $ Ko rfl $ Kp rfl $ Kr rfl $ E.nil $ X.join0 (Sub.cons (by exact leaf_d (by omega)) $ Sub.nil _) rfl rfl
 refine C.cond' rfl (fun hC0 => ?_) (fun hC0 => ?_)
 ·
  refine Kb $ Kn rfl $ Kn rfl $ Kc rfl $ C.ret $ X.retT $ ret3 rfl rfl rfl rfl ?_
  exact ⟨_, [], 0, 3, rfl, (hM.pick [] (by decide)).nil u8 5, .inr ⟨by decide, by rw [Df.inf, if_pos hC0], rfl, rfl⟩⟩
 refine Kk $ C.seq $ Kb $ Km rfl $ E.lenv rfl (Rd.shape (hM.arg0 hp)) U22 rfl $ Kp rfl $ Ka $ C.cond' rfl (fun hC1 => ?_) (fun hC1 => ?_)
 ·
  refine Kb $ Kn rfl $ Kn rfl $ Kc rfl $ C.ret $ X.retT $ ret3 rfl rfl rfl rfl ?_
  exact ⟨_, [], 0, 4, rfl, (hM.pick [] (by decide)).nil u8 5, .inr ⟨by decide, by rw [Df.inf, if_neg hC0, if_pos (by omega)], rfl, rfl⟩⟩
 have hl4 : l.length ≤ 4194304 := by omega
 obtain ⟨lim, rfl⟩ : ∃ lim : Nat, x = (lim : Int) := ⟨x.toNat, by omega⟩
 have hinf : Df.inf l lim = Df.rinf lim l [] (Df.ub l) 0 := by rw [Df.inf, if_neg hC0, if_neg (by omega), Int.toNat_natCast]
 have hul := Df.ub_len l
 have hlim : lim ≤ 16777216 := by omega
 refine Kk $ Kb $ Kf rfl $ ?_
 obtain ⟨pa, pcap, hpe⟩ := Rd.shape hp
 refine E.buildC (cs := [p, i64 0, .slice none 0 0, i64 (lim : Int), i64 0]) [.slice none 0 0, .int .i64 0, .slice none 0 0, .int .i64 0, .int .i64 0] [0, 3] rfl (by rw [hpe]; rfl) (by rw [hpe]; kernel_rfl) rfl $ E.boxM (cs := [p, i64 0, .slice none 0 0, i64 (lim : Int), i64 0]) hM rfl (by rw [hpe]; rfl) rfl ?_
 intro b22 w0 hM
 try dsimp only [Za, Zb, Zc, Zd, repl] at hM
 refine Kd rfl $ Kc rfl $ C.cut4 [(7, _)] rfl (fun (af : Nat) (vf : Value) (of_ : LUr) (ef : Int) => []) (fun (af : Nat) (vf : Value) (of_ : LUr) (ef : Int) w' => M w (Nn) w' [Rg.blk b22 107 [p, i64 ((af : Nat) : Int), vf, i64 (lim : Int), i64 ef], Rg.sl u8 5 vf of_] ∧ af ≤ 8 * l.length ∧ ((ef ≠ 0 ∧ (Df.rinf lim l [] (Df.ub l) 0) = .error ef) ∨ (ef = 0 ∧ (Df.rinf lim l [] (Df.ub l) 0) = .ok (of_, af)))) ?_ ?_
 ·
  refine C.block $ ?_
  have hM := hM.nil u8 5
  try dsimp only [Za, Zb, Zc, Zd, repl] at hM
  refine C.loop5 [(7, _)] rfl (fun (aa : Nat) (vs : Value) (o : LUr) (ee : Int) (y : Nat) => [(8, i64 y)]) (fun (aa : Nat) (vs : Value) (o : LUr) (ee : Int) (y : Nat) w' => M w (Nn) w' [Rg.blk b22 107 [p, i64 ((aa : Nat) : Int), vs, i64 (lim : Int), i64 ee], Rg.sl u8 5 vs o] ∧ Df.IN lim l (Df.rinf lim l [] (Df.ub l) 0) aa o ee y) (fun (aa : Nat) (vs : Value) (o : LUr) (ee : Int) (y : Nat) => Df.IM ee y l.length aa) 0 nlr [] 0 0 ?_ ?_ ?_
  · exact S1 rfl
  · exact ⟨hM, Nat.zero_le _, Nat.zero_le _, .inr (.inl ⟨rfl, rfl, rfl⟩)⟩
  rintro aa vs o ee y w1 ⟨hM, hT⟩
  refine C.seq $ C.chainE [(7, _)] rfl [(31, .bool (decide ((y : Int) = 0 ∧ ee = 0)))] ?_ ?_
  ·
   refine C.region $ Km rfl $ Kp rfl $ Km rfl $ E.split 25 rfl (fun g25 => ?_) (fun g25 => ?_)
   ·
    try simp only [Ya, Yb, Yc, Yd, Ye, Yf] at g25
    refine Ko rfl $ Km rfl $ Ko rfl $ E.nilc rfl rfl $ Ko rfl $ E.fld (o := 4) (sz := 0) rfl U107 rfl rfl (by kernel_rfl) rfl $ Ko rfl $ E.load rfl U26 rfl (hM.bcell 0 rfl rfl) rfl $ Ko rfl $ Kp rfl $ Kr rfl $ E.nil $ X.join0 (Sub.cons (look_eq rfl (congrArg Value.bool (by exact decide_eq_decide.2 ⟨fun h => by omega, fun h => by omega⟩))) $ Sub.nil _) rfl rfl
   try simp only [Ya, Yb, Yc, Yd, Ye, Yf] at g25
   refine Kq rfl $ Kq rfl $ Kq rfl $ Kq rfl $ Kq rfl $ Kr rfl $ E.nil $ X.join0 (Sub.cons (look_eq rfl (congrArg Value.bool (by exact (decide_eq_false (by omega)).symm))) $ Sub.nil _) rfl rfl
  refine C.cond' rfl (fun hC2 => ?_) (fun hC2 => ?_)
  ·
   obtain rfl : ee = 0 := hC2.2
   obtain rfl : y = 0 := by omega
   obtain ⟨hoo, hab, _⟩ := id hT
   refine Kk $ C.block $ Kb $ Km rfl $ E.call rfl rfl (bits34_ret 1 b22 aa lim p vs 0 l _ (hM.pick [0] (by decide)).sep (hM.arg0 hp) ((hM.pick [0] (by decide)).offS hp (.inr id)) (by omega) (by omega) (by decide)) ?_
   rintro _ w2 ⟨x2, a2, e2, rfl, m2, hr2, ha2, hb2⟩
   have hM := hM.calls [0] (by decide) rfl (by simp) m2
   try dsimp only [Za, Zb, Zc, Zd, repl] at hM
   try dsimp only [Za, Zb, Zc, Zd, repl] at hM
   refine Kd rfl $ Km rfl $ E.call rfl rfl (bits34_ret 2 b22 a2 lim p vs e2 l _ (hM.pick [0] (by decide)).sep (hM.arg0 hp) ((hM.pick [0] (by decide)).offS hp (.inr id)) (by omega) (by omega) (by decide)) ?_
   rintro _ w3 ⟨x3, a3, e3, rfl, m3, hr3, ha3, hb3⟩
   have hM := hM.calls [0] (by decide) rfl (by simp) m3
   try dsimp only [Za, Zb, Zc, Zd, repl] at hM
   try dsimp only [Za, Zb, Zc, Zd, repl] at hM
   refine Kc rfl $ C.seq $ Kb $ Km rfl $ E.nilc rfl rfl $ E.fld (o := 4) (sz := 0) rfl U107 rfl rfl (by kernel_rfl) rfl $ E.load rfl U26 rfl (hM.bcell 0 rfl rfl) rfl $ Kp rfl $ Ka $ C.cond' rfl (fun hC3 => ?_) (fun hC3 => ?_)
   ·
    refine C.exit $ X.exitT $ X.outNe rfl $ X.exitT $ X.outE $ X.join4 a3 vs o e3 (Sub.nil _) rfl ⟨hM, hb3, .inl ⟨hC3, hT.cut hr2 hr3 hC3⟩⟩
   obtain rfl : e3 = 0 := by omega
   obtain ⟨k1, k2⟩ := Df.RS.two (lim := lim) hr2 hr3
   refine Kk $ Kb $ Km rfl $ Ka $ C.block $ Kb $ Kp rfl $ Kc rfl $ C.cond' rfl (fun hC4 => ?_) (fun hC4 => ?_)
   ·
    refine C.region $ Km rfl $ E.call rfl rfl (stored34_ret o b22 a3 lim p vs l _ (hM.pick [0, 1] (by decide)).sep (hM.arg0 hp) ((hM.pick [0, 1] (by decide)).offS hp (.inr id)) (by omega) (by omega) hoo hlim) ?_
    rintro _ w4 ⟨vn, o4, a4, e4, m4, hr4, hb4, ho4⟩
    have hM := hM.calls [0, 1] (by decide) rfl (by simp) m4
    try dsimp only [Za, Zb, Zc, Zd, repl] at hM
    try dsimp only [Za, Zb, Zc, Zd, repl] at hM
    refine E.nil $ X.outN $ X.outN $ X.again5 a4 vn o4 e4 x2 (S1 rfl) rfl ⟨hM.pick [0, 1] (by decide), (hT.step k1 k2 (by rw [Df.rkin, if_pos (by omega)]; exact hr4) ho4 (by omega)).1⟩ (Df.IM_lt (hT.step k1 k2 (by rw [Df.rkin, if_pos (by omega)]; exact hr4) ho4 (by omega)).2 hb4)
   refine Kb $ Kp rfl $ Kc rfl $ C.cond' rfl (fun hC5 => ?_) (fun hC5 => ?_)
   ·
    refine C.region $ Km rfl $ E.call rfl rfl (rfixL_ret _) ?_
    rintro v51 w5 m5
    have hM := hM.call m5
    try dsimp only [Za, Zb, Zc, Zd, repl] at hM
    try dsimp only [Za, Zb, Zc, Zd, repl] at hM
    refine E.call rfl rfl (rfixD_ret _) ?_
    rintro v52 w6 m6
    have hM := hM.call m6
    try dsimp only [Za, Zb, Zc, Zd, repl] at hM
    try dsimp only [Za, Zb, Zc, Zd, repl] at hM
    refine E.call rfl rfl (block34_ret v51 v52 Df.fixL Df.fixD o b22 a3 lim p vs l _ (hM.pick [0, 1] (by decide)).sep (hM.arg0 hp) ((hM.pick [0, 1] (by decide)).offS hp (.inr id)) (by omega) (by omega) (hM.sl 2 rfl) (hM.offR 2 rfl [0, 1] (by simp)) (hM.sl 3 rfl) (hM.offR 3 rfl [0, 1] (by simp)) Df.code_fix.1 (by rw [Df.fix_len.1]; decide) Df.code_fix.2 (by rw [Df.fix_len.2]; decide) hoo hlim) ?_
    rintro _ w7 ⟨vn, o4, a4, e4, m7, hr4, hb4, ho4⟩
    have hM := hM.calls [0, 1] (by decide) rfl (by simp) m7
    try dsimp only [Za, Zb, Zc, Zd, repl] at hM
    try dsimp only [Za, Zb, Zc, Zd, repl] at hM
    refine E.nil $ X.outN $ X.outN $ X.again5 a4 vn o4 e4 x2 (S1 rfl) rfl ⟨hM.pick [0, 1] (by decide), (hT.step k1 k2 (by rw [Df.rkin, if_neg (by omega), if_pos (by omega)]; exact hr4) ho4 (by omega)).1⟩ (Df.IM_lt (hT.step k1 k2 (by rw [Df.rkin, if_neg (by omega), if_pos (by omega)]; exact hr4) ho4 (by omega)).2 hb4)
   refine Kb $ Kp rfl $ Kc rfl $ C.cond' rfl (fun hC6 => ?_) (fun hC6 => ?_)
   ·
    refine C.region $ Km rfl $ E.call rfl rfl (own34_ret o b22 a3 lim p vs l _ (hM.pick [0, 1] (by decide)).sep (hM.arg0 hp) ((hM.pick [0, 1] (by decide)).offS hp (.inr id)) (by omega) (by omega) hoo hlim) ?_
    rintro _ w8 ⟨vn, o4, a4, e4, m8, hr4, hb4, ho4⟩
    have hM := hM.calls [0, 1] (by decide) rfl (by simp) m8
    try dsimp only [Za, Zb, Zc, Zd, repl] at hM
    try dsimp only [Za, Zb, Zc, Zd, repl] at hM
    refine E.nil $ X.outN $ X.outN $ X.again5 a4 vn o4 e4 x2 (S1 rfl) rfl ⟨hM.pick [0, 1] (by decide), (hT.step k1 k2 (by rw [Df.rkin, if_neg (by omega), if_neg (by omega), if_pos (by omega)]; exact hr4) ho4 (by omega)).1⟩ (Df.IM_lt (hT.step k1 k2 (by rw [Df.rkin, if_neg (by omega), if_neg (by omega), if_pos (by omega)]; exact hr4) ho4 (by omega)).2 hb4)
   refine C.region $ Km rfl $ E.call rfl rfl (fail34_ret b22 a3 lim p vs 0 9 _ (hM.pick [0] (by decide)).sep) ?_
   rintro _ w9 m9
   rw [fst_z] at m9
   have hM := hM.calls [0] (by decide) rfl (by simp) m9
   try dsimp only [Za, Zb, Zc, Zd, repl] at hM
   have hr4 : Rds (Df.rkin lim l o x3 (Df.ub l) a3) o a3 9 := .err (by decide) (by rw [Df.rkin, if_neg (by omega), if_neg (by omega), if_neg (by omega)])
   try dsimp only [Za, Zb, Zc, Zd, repl] at hM
   refine E.nil $ X.outN $ X.outN $ X.again5 a3 vs o 9 x2 (S1 rfl) rfl ⟨hM, (hT.step k1 k2 hr4 hoo (by omega)).1⟩ (Df.IM_lt (hT.step k1 k2 hr4 hoo (by omega)).2 hb3)
  refine C.exit $ X.exitT $ X.exitT $ X.outE $ X.join4 aa vs o ee (Sub.nil _) rfl ⟨hM, by have := hT.2.1; omega, hT.fin hC2⟩
 rintro af vf of_ ef w10 ⟨hM, haf, hfi⟩
 refine C.seq $ Kb $ Km rfl $ E.nilc rfl rfl $ E.fld (o := 4) (sz := 0) rfl U107 rfl rfl (by kernel_rfl) rfl $ E.load rfl U26 rfl (hM.bcell 0 rfl rfl) rfl $ Kp rfl $ Ka $ C.cond' rfl (fun hC7 => ?_) (fun hC7 => ?_)
 ·
  refine C.seq $ C.drawn (by kernel_rfl) (by kernel_rfl) $ Q.mv rfl rfl $ Q.nilc rfl rfl $ Q.fld (o := 4) (sz := 0) rfl U107 rfl rfl (by kernel_rfl) rfl $ Q.load rfl U26 rfl (hM.bcell 0 rfl rfl) rfl $ Q.asg rfl rfl $ Q.asg rfl rfl $ Q.asg rfl rfl $ Q.nil $ fun w11 hx11 => ?_
  have hM := hM.ext hx11
  refine X.next $ C.ret $ X.retT $ ret3 rfl rfl rfl rfl ?_
  exact ⟨_, [], 0, ef, rfl, (hM.pick [] (by decide)).nil u8 5, .inr ⟨hC7, by rw [hinf]; exact (hfi.resolve_right (fun q => hC7 q.1)).2, rfl, rfl⟩⟩
 have hfo := (hfi.resolve_left (fun q => hC7 q.1)).2
 obtain rfl : ef = 0 := by omega
 refine Kk $ C.seq $ C.drawn (by kernel_rfl) (by kernel_rfl) $ Q.mv rfl rfl $ Q.nilc rfl rfl $ Q.fld (o := 2) (sz := 0) rfl U107 rfl rfl (by kernel_rfl) rfl $ Q.load rfl U22 rfl (hM.bcell 0 rfl rfl) rfl $ Q.mv rfl rfl $ Q.nilc rfl rfl $ Q.fld (o := 1) (sz := 0) rfl U107 rfl rfl (by kernel_rfl) rfl $ Q.load rfl U3 rfl (hM.bcell 0 rfl rfl) rfl $ Q.addN (a := af) (b := 7) rfl rfl (by omega) rfl $ Q.quo rfl rfl (by omega) (quoN (a := af + 7) (b := 8) (by omega) (by omega)) rfl $ Q.asg rfl rfl $ Q.asg rfl rfl $ Q.asg rfl rfl $ Q.nil $ fun w12 hx12 => ?_
 have hM := hM.ext hx12
 refine X.next $ C.ret $ ret3 rfl rfl rfl rfl ?_
 exact ⟨vf, of_, (af + 7) / 8, 0, rfl, hM.pick [1] (by decide), .inl ⟨rfl, af, by rw [hinf, hfo], rfl, haf⟩⟩
end Go.Proofs.YtajklleiifhipaaGreatDoor
