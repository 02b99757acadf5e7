/- the reference's reader: literals and matches. -/
import Derived.Test.YtajklleiifhipaaGreatDoorY0
import Derived.Test.YtajklleiifhipaaGreatDoorY5
import Derived.Test.YtajklleiifhipaaGreatDoorPg28Y
set_option linter.unusedSimpArgs false
set_option linter.unusedVariables false
namespace Go.Proofs.YtajklleiifhipaaGreatDoor
open Go.RowKit Sym
abbrev LUr := List UInt8
namespace Df
def TI (L D : List Nat) (lim : Nat) (B : List Bool) (T : Except Int (List UInt8 × Nat)) (a1 : Nat) (o : List UInt8) (e : Int) : Prop := o.length ≤ lim ∧ a1 ≤ B.length ∧ ((e = 0 ∧ tk L D lim B a1 o = T) ∨ (e ≠ 0 ∧ T = .error e))
def BM (e : Int) (n a : Nat) : Nat := if e = 0 then 8 * n - a + 1 else 0
theorem BM_lt {e : Int} {n a a1 : Nat} (h : a1 < a) (ha : a ≤ 8 * n) : BM e n a < BM 0 n a1 := by
 unfold BM; rw [if_pos rfl]; split <;> omega
theorem TI.err {L D : List Nat} {lim : Nat} {B : List Bool} {T : Except Int (List UInt8 × Nat)} {a1 : Nat} {o : List UInt8} {e : Int} (h : TI L D lim B T a1 o e) (he : e ≠ 0) : Rds T o a1 e := by
 rcases h.2.2 with ⟨h1, _⟩ | ⟨h1, h2⟩
 · exact (he h1).elim
 exact .err h1 h2
theorem TI.on {L D : List Nat} {lim : Nat} {B : List Bool} {T : Except Int (List UInt8 × Nat)} {a1 : Nat} {o : List UInt8} (h : TI L D lim B T a1 o 0) : tk L D lim B a1 o = T := by
 rcases h.2.2 with ⟨_, h1⟩ | ⟨h1, _⟩
 · exact h1
 exact (h1 rfl).elim
theorem TI.stop {L D : List Nat} {lim : Nat} {B : List Bool} {T : Except Int (List UInt8 × Nat)} {a1 x a2 : Nat} {o : List UInt8} {e2 : Int} (h : TI L D lim B T a1 o 0) (hr : RS 0 (rsym L B a1) x 0 a1 a2 e2) (hc : e2 ≠ 0 ∨ (x : Int) = 256) : Rds T o a2 e2 := by
  rw [← h.on]
  by_cases z : e2 = 0
  · subst z
    have hx : x = 256 := by
      rcases hc with hc | hc
      · exact (hc rfl).elim
      omega
    subst hx
    exact .ok (tk_end (hr.rds.good (by decide)))
  exact .err z (tk_err (hr.rds.bad z))
theorem TI.lit {L D : List Nat} {lim : Nat} {B : List Bool} {T : Except Int (List UInt8 × Nat)} {a1 s a2 : Nat} {o : List UInt8} (h : TI L D lim B T a1 o 0) (hr : rsym L B a1 = .ok (s, a2)) (hs : s < 256) : TI L D lim B T a2 (if lim ≤ o.length then o else o ++ [UInt8.ofNat s]) (if lim ≤ o.length then 4 else 0) := by
  have h1 := h.on
  have h2 := rsym_adv h.2.1 hr
  rw [tk_lit h.2.1 hr hs] at h1
  by_cases c : lim ≤ o.length
  · rw [if_pos c] at h1 ⊢
    rw [if_pos c]
    exact ⟨h.1, h2.2, .inr ⟨by decide, h1.symm⟩⟩
  rw [if_neg c] at h1 ⊢
  rw [if_neg c]
  exact ⟨by rw [List.length_append, List.length_singleton]; omega, h2.2, .inl ⟨rfl, h1⟩⟩
def MD (D : List Nat) (B : List Bool) (s a2 x5 a5 x6 a6 : Nat) (e : Int) : Prop := (e ≠ 0 ∧ rmt D s B a2 = .error e) ∨ (e = 0 ∧ x6 ≤ 29 ∧ rbits (lxt s) B a2 = .ok (x5, a5) ∧ rsym D B a5 = .ok (x6, a6))
theorem MD.of {D : List Nat} {B : List Bool} {s a2 x5 a5 x6 a6 : Nat} {e5 e6 : Int} (h1 : RS 0 (rbits (lxt s) B a2) x5 0 a2 a5 e5) (h2 : RS e5 (rsym D B a5) x6 0 a5 a6 e6) : MD D B s a2 x5 a5 x6 a6 (if e6 = 0 ∧ (29 : Int) < x6 then fst e6 9 else e6) := by
  by_cases z5 : e5 = 0
  · subst z5
    have k1 := h1.rds.good (by decide)
    by_cases z6 : e6 = 0
    · subst z6
      have k2 := h2.rds.good (by decide)
      by_cases c : 29 < x6
      · rw [if_pos ⟨rfl, by omega⟩, fst_z]
        refine .inl ⟨by decide, ?_⟩
        unfold rmt
        rw [bnd_ok k1, bnd_ok k2, if_pos (by omega)]
      rw [if_neg (by omega)]
      exact .inr ⟨rfl, by omega, k1, k2⟩
    rw [if_neg (fun q => z6 q.1)]
    refine .inl ⟨z6, ?_⟩
    unfold rmt
    rw [bnd_ok k1, bnd_err (h2.rds.bad z6)]
  obtain ⟨k2, _⟩ := h2.bad z5
  subst k2
  rw [if_neg (fun q => z5 q.1)]
  refine .inl ⟨z5, ?_⟩
  unfold rmt
  rw [bnd_err (h1.rds.bad z5)]
theorem MD.last {D : List Nat} {B : List Bool} {s a2 x5 a5 x6 a6 x a' : Nat} {e : Int} (h : MD D B s a2 x5 a5 x6 a6 0) (hr : RS 0 (rbits (dxt x6) B a6) x 0 a6 a' e) : (e ≠ 0 → rmt D s B a2 = .error e) ∧ (e = 0 → rmt D s B a2 = .ok ((lls s + x5, dls x6 + x), a')) := by
 obtain ⟨_, h1, h2, h3⟩ := h.resolve_left (fun q => q.1 rfl)
 have key : rmt D s B a2 = bnd (rbits (dxt x6)) (fun y => fun _ a => .ok ((lls s + x5, dls x6 + y), a)) B a6 := by
  unfold rmt
  rw [bnd_ok h2, bnd_ok h3, if_neg (by omega)]
 rw [key]
 refine ⟨fun he => bnd_err (hr.rds.bad he), fun he => ?_⟩
 subst he
 rw [bnd_ok (hr.rds.good (by decide))]
theorem TI.merr {L D : List Nat} {lim : Nat} {B : List Bool} {T : Except Int (List UInt8 × Nat)} {a1 s a2 a3 : Nat} {o : List UInt8} {e : Int} (h : TI L D lim B T a1 o 0) (hr : rsym L B a1 = .ok (s, a2)) (h2 : 256 < s) (h3 : s ≤ 285) (he : e ≠ 0) (hm : rmt D s B a2 = .error e) (ha : a3 ≤ B.length) : TI L D lim B T a3 o e := by
 refine ⟨h.1, ha, .inr ⟨he, ?_⟩⟩
 rw [← h.on]; exact tk_merr hr h2 h3 hm
theorem TI.mat {L D : List Nat} {lim : Nat} {B : List Bool} {T : Except Int (List UInt8 × Nat)} {a1 s a2 a3 n d : Nat} {o o' : List UInt8} (h : TI L D lim B T a1 o 0) (hr : rsym L B a1 = .ok (s, a2)) (h2 : 256 < s) (h3 : s ≤ 285) (hm : rmt D s B a2 = .ok ((n, d), a3)) (ho : o'.length ≤ lim) (ho2 : mev o.length d n lim = 0 → o' = rp d o n) : TI L D lim B T a3 o' (mev o.length d n lim) := by
  have h1 := h.on
  have hadv := rsym_adv h.2.1 hr
  have hma := rmt_adv hadv.2 hm
  rw [tk_mat h.2.1 hr h2 h3 hm] at h1
  refine ⟨ho, hma.2, ?_⟩
  unfold mev at ho2 ⊢
  by_cases c1 : o.length < d
  · rw [if_pos c1] at h1 ⊢
    exact .inr ⟨by decide, h1.symm⟩
  rw [if_neg c1] at h1 ho2 ⊢
  by_cases c2 : lim < o.length + n
  · rw [if_pos c2] at h1 ⊢
    exact .inr ⟨by decide, h1.symm⟩
  rw [if_neg c2] at h1 ho2 ⊢
  rw [← ho2 rfl] at h1
  exact .inl ⟨rfl, h1⟩
end Df
set_option maxHeartbeats 4000000 in
set_option maxRecDepth 4000 in
theorem block34_ret (vL vD : Value) (L D : List Nat) (out : List UInt8) (b a lim : Nat) (p vo : Value) (l : List UInt8) (w : World) (hs : Sep w [Rg.blk b 107 [p, i64 ((a : Nat) : Int), vo, i64 (lim : Int), i64 0], Rg.sl u8 5 vo out]) (hp : RdL u8 w p l) (ho : Off (fpU [Rg.blk b 107 [p, i64 ((a : Nat) : Int), vo, i64 (lim : Int), i64 0], Rg.sl u8 5 vo out]) p l) (ha : a ≤ 8 * l.length) (hl : l.length ≤ 1099511627776) (hL : RdL i64 w vL (nz L)) (hoL : Off (fpU [Rg.blk b 107 [p, i64 ((a : Nat) : Int), vo, i64 (lim : Int), i64 0], Rg.sl u8 5 vo out]) vL (nz L)) (hD : RdL i64 w vD (nz D)) (hoD : Off (fpU [Rg.blk b 107 [p, i64 ((a : Nat) : Int), vo, i64 (lim : Int), i64 0], Rg.sl u8 5 vo out]) vD (nz D)) (hcL : Df.Code L) (hlL : L.length ≤ 4294967296) (hcD : Df.Code D) (hlD : D.length ≤ 4294967296) (hol : out.length ≤ lim) (hlim : lim ≤ 16777216) :
  Ret Tryz.prog 82 #[pv b, vL, vD] w fun v w' => ∃ (vn : Value) (out' : List UInt8) (a' : Nat) (e' : Int), M w (fpU [Rg.blk b 107 [p, i64 ((a : Nat) : Int), vo, i64 (lim : Int), i64 0], Rg.sl u8 5 vo out]) w' [Rg.blk b 107 [p, i64 ((a' : Nat) : Int), vn, i64 (lim : Int), i64 e'], Rg.sl u8 5 vn out'] ∧ Rds (Df.tk L D lim (Df.ub l) a out) out' a' e' ∧ a' ≤ 8 * l.length ∧ out'.length ≤ lim := by
 have hM := M.startS hs
 refine enter Tryz.func82 rfl (by kernel_rfl) Tryz.ntmps82 rfl $ C.block $ ?_
 have hul := Df.ub_len l
 refine C.loop4 [(0, _), (1, _), (2, _)] rfl (fun (aa : Nat) (vs : Value) (o : LUr) (ee : Int) => []) (fun (aa : Nat) (vs : Value) (o : LUr) (ee : Int) w' => M w (fpU [Rg.blk b 107 [p, i64 ((a : Nat) : Int), vo, i64 (lim : Int), i64 0], Rg.sl u8 5 vo out]) w' [Rg.blk b 107 [p, i64 ((aa : Nat) : Int), vs, i64 (lim : Int), i64 ee], Rg.sl u8 5 vs o] ∧ Df.TI L D lim (Df.ub l) (Df.tk L D lim (Df.ub l) a out) aa o ee) (fun (aa : Nat) (vs : Value) (o : LUr) (ee : Int) => Df.BM ee l.length aa) a vo out 0 ?_ ?_ ?_
 · exact Sub.nil _
 · exact ⟨hM, hol, by omega, .inl ⟨rfl, rfl⟩⟩
 rintro aa vs o ee w0 ⟨hM, hT⟩
 refine C.seq $ Kb $ Km rfl $ E.nilc rfl rfl $ E.fld (o := 4) (sz := 0) rfl U107 rfl rfl (by kernel_rfl) rfl $ E.load rfl U26 rfl (hM.bcell 0 rfl rfl) rfl $ Kp rfl $ Ka $ C.cond' rfl (fun hC0 => ?_) (fun hC0 => ?_)
 ·
  obtain rfl : ee = 0 := by omega
  obtain ⟨hoo, hab, _⟩ := id hT
  refine Kk $ C.block $ Kb $ Kf rfl $ E.call rfl rfl (symbol34_ret vL L b aa lim p vs 0 l _ (hM.pick [0] (by decide)).sep (hM.arg hp ho) ((hM.pick [0] (by decide)).offS hp ho) (by omega) hl (hM.arg hL hoL) ((hM.pick [0] (by decide)).offS hL hoL) hcL hlL) ?_
  rintro _ w1 ⟨x1, a1, e1, rfl, m1, hr1, ha1, hb1⟩
  have hM := hM.calls [0] (by decide) rfl (by simp) m1
  try dsimp only [Za, Zb, Zc, Zd, repl] at hM
  try dsimp only [Za, Zb, Zc, Zd, repl] at hM
  refine Kc rfl $ C.seq $ C.chainE [(0, _), (1, _), (2, _), (6, _)] rfl [(27, .bool (decide (e1 ≠ 0 ∨ (x1 : Int) = 256)))] ?_ ?_
  ·
   refine C.region $ Km rfl $ E.nilc rfl rfl $ E.fld (o := 4) (sz := 0) rfl U107 rfl rfl (by kernel_rfl) rfl $ E.load rfl U26 rfl (hM.bcell 0 rfl rfl) rfl $ Kp rfl $ Km rfl $ E.split 24 rfl (fun g24 => ?_) (fun g24 => ?_)
   ·
    try simp only [Ya, Yb, Yc, Yd, Ye, Yf] at g24
    refine Kq rfl $ Kq rfl $ Kr rfl $ E.nil $ X.join0 (Sub.cons (by exact leaf_t (by omega)) $ Sub.nil _) rfl rfl
   try simp only [Ya, Yb, Yc, Yd, Ye, Yf] at g24
   refine Ko rfl $ Km rfl $ Ko rfl $ Kp rfl $ Kr rfl $ E.nil $ X.join0 (Sub.cons (by exact leaf_d (by omega)) $ Sub.nil _) rfl rfl
  refine C.cond' rfl (fun hC1 => ?_) (fun hC1 => ?_)
  ·
   refine C.ret $ X.retT $ X.retB $ X.retT $ X.retB $ ret0 rfl ?_
   exact ⟨vs, o, a1, e1, hM, hT.stop hr1 hC1, hb1, hoo⟩
  obtain rfl : e1 = 0 := by omega
  have k1 := hr1.rds.good (by decide)
  have hadv := Df.rsym_adv hab k1
  refine Kk $ C.seq $ Kb $ Km rfl $ Kp rfl $ Ka $ C.cond' rfl (fun hC2 => ?_) (fun hC2 => ?_)
  ·
   refine Kb $ Kf rfl $ E.conv rfl U3 U5 (IntWalk.u8_in _ (by omega)) rfl ?_
   rw [← ofNat_u8 (show x1 ≤ 255 by omega)]
   refine E.call rfl rfl (put34_ret b a1 lim p vs o (UInt8.ofNat x1) _ (hM.pick [0, 1] (by decide)).sep hlim) ?_
   rintro _ w2 ⟨vn, m2⟩
   have hM := hM.calls [0, 1] (by decide) rfl (by simp) m2
   try dsimp only [Za, Zb, Zc, Zd, repl] at hM
   try dsimp only [Za, Zb, Zc, Zd, repl] at hM
   refine Ka $ C.exit $ X.exitT $ X.outE $ X.again4 a1 vn _ _ (Sub.nil _) rfl ⟨hM, hT.lit k1 (by omega)⟩ (Df.BM_lt (by omega) hb1)
  refine Kk $ C.seq $ Kb $ Km rfl $ Kp rfl $ Ka $ C.cond' rfl (fun hC3 => ?_) (fun hC3 => ?_)
  ·
   refine Kb $ Km rfl $ E.call rfl rfl (fail34_ret b a1 lim p vs 0 9 _ (hM.pick [0] (by decide)).sep) ?_
   rintro _ w3 m3
   have hM := hM.calls [0] (by decide) rfl (by simp) m3
   try dsimp only [Za, Zb, Zc, Zd, repl] at hM
   try dsimp only [Za, Zb, Zc, Zd, repl] at hM
   refine Ka $ C.ret $ X.retT $ X.retB $ X.retT $ X.retB $ ret0 rfl ?_
   exact ⟨vs, o, a1, fst 0 9, hM, by rw [← hT.on, fst_z]; exact .err (by decide) (Df.tk_bad k1 (by omega)), hb1, hoo⟩
  have hs1 : 257 ≤ x1 := by omega
  have hs2 : x1 ≤ 285 := by omega
  have hlb := Df.lx_bd x1 (by omega)
  have hp5 : 2 ^ Df.lxt x1 ≤ 2 ^ 5 := Nat.pow_le_pow_right (by decide) hlb.1
  refine Kk $ Kb $ Km rfl $ E.call rfl rfl (rlengthOf_ret x1 _ hs1 hs2) ?_
  rintro _ w4 ⟨rfl, x4⟩
  have hM := hM.ext x4
  try dsimp only [Za, Zb, Zc, Zd, repl] at hM
  refine Km rfl $ E.ext rfl rfl rfl $ E.ext rfl rfl rfl $ Kn rfl $ Kd rfl $ Kf rfl $ Km rfl $ E.call rfl rfl (bits34_ret (Df.lxt x1) b a1 lim p vs 0 l _ (hM.pick [0] (by decide)).sep (hM.arg hp ho) ((hM.pick [0] (by decide)).offS hp ho) (by omega) hl (by omega)) ?_
  rintro _ w5 ⟨x5, a5, e5, rfl, m5, hr5, ha5, hb5⟩
  have hM := hM.calls [0] (by decide) rfl (by simp) m5
  try dsimp only [Za, Zb, Zc, Zd, repl] at hM
  have hx5 := hr5.bits_lt
  try dsimp only [Za, Zb, Zc, Zd, repl] at hM
  refine E.addN (a := Df.lls x1) (b := x5) rfl rfl (by omega) rfl $ Kd rfl $ Kf rfl $ E.call rfl rfl (symbol34_ret vD D b a5 lim p vs e5 l _ (hM.pick [0] (by decide)).sep (hM.arg hp ho) ((hM.pick [0] (by decide)).offS hp ho) (by omega) hl (hM.arg hD hoD) ((hM.pick [0] (by decide)).offS hD hoD) hcD hlD) ?_
  rintro _ w6 ⟨x6, a6, e6, rfl, m6, hr6, ha6, hb6⟩
  have hM := hM.calls [0] (by decide) rfl (by simp) m6
  try dsimp only [Za, Zb, Zc, Zd, repl] at hM
  try dsimp only [Za, Zb, Zc, Zd, repl] at hM
  refine Kc rfl $ C.cut1 [(0, _), (1, _), (2, _), (8, _), (9, _)] rfl (fun (e7 : Int) => []) (fun (e7 : Int) w' => M w (fpU [Rg.blk b 107 [p, i64 ((a : Nat) : Int), vo, i64 (lim : Int), i64 0], Rg.sl u8 5 vo out]) w' [Rg.blk b 107 [p, i64 ((a6 : Nat) : Int), vs, i64 (lim : Int), i64 e7], Rg.sl u8 5 vs o] ∧ Df.MD D (Df.ub l) x1 a1 x5 a5 x6 a6 e7) ?_ ?_
  ·
   refine C.chainE [(0, _), (1, _), (2, _), (8, _), (9, _)] rfl [(59, .bool (decide (e6 = 0 ∧ (29 : Int) < x6)))] ?_ ?_
   ·
    refine C.region $ Km rfl $ E.nilc rfl rfl $ E.fld (o := 4) (sz := 0) rfl U107 rfl rfl (by kernel_rfl) rfl $ E.load rfl U26 rfl (hM.bcell 0 rfl rfl) rfl $ Kp rfl $ Km rfl $ E.split 56 rfl (fun g56 => ?_) (fun g56 => ?_)
    ·
     try simp only [Ya, Yb, Yc, Yd, Ye, Yf] at g56
     refine Ko rfl $ Km rfl $ Ko rfl $ Kp rfl $ Kr rfl $ E.nil $ X.join0 (Sub.cons (by exact leaf_d (by omega)) $ Sub.nil _) rfl rfl
    try simp only [Ya, Yb, Yc, Yd, Ye, Yf] at g56
    refine Kq rfl $ Kq rfl $ Kr rfl $ E.nil $ X.join0 (Sub.cons (by exact leaf_f (by omega)) $ Sub.nil _) rfl rfl
   refine C.cond' rfl (fun hC4 => ?_) (fun hC4 => ?_)
   ·
    have hz := Df.MD.of hr5 hr6
    rw [if_pos hC4] at hz
    refine C.region $ Km rfl $ E.call rfl rfl (fail34_ret b a6 lim p vs e6 9 _ (hM.pick [0] (by decide)).sep) ?_
    rintro _ w7 m7
    have hM := hM.calls [0] (by decide) rfl (by simp) m7
    try dsimp only [Za, Zb, Zc, Zd, repl] at hM
    try dsimp only [Za, Zb, Zc, Zd, repl] at hM
    refine E.nil $ X.join1 (fst e6 9) (Sub.nil _) rfl ⟨hM, hz⟩
   have hz := Df.MD.of hr5 hr6
   rw [if_neg hC4] at hz
   refine C.skip $ X.join1 e6 (Sub.nil _) rfl ⟨hM, hz⟩
  rintro e7 w8 ⟨hM, hmd⟩
  refine C.seq $ Kb $ Km rfl $ E.nilc rfl rfl $ E.fld (o := 4) (sz := 0) rfl U107 rfl rfl (by kernel_rfl) rfl $ E.load rfl U26 rfl (hM.bcell 0 rfl rfl) rfl $ Kp rfl $ Ka $ C.cond' rfl (fun hC5 => ?_) (fun hC5 => ?_)
  ·
   refine C.ret $ X.retT $ X.retB $ X.retT $ X.retB $ ret0 rfl ?_
   exact ⟨vs, o, a6, e7, hM, (hT.merr k1 (by omega) hs2 hC5 (hmd.elim (fun q => q.2) (fun q => (hC5 q.1).elim)) (show a6 ≤ (Df.ub l).length by omega)).err hC5, hb6, hoo⟩
  obtain rfl : e7 = 0 := by omega
  have hx6 := (hmd.resolve_left (fun q => q.1 rfl)).2.1
  have hdb := Df.dx_bd x6 (by omega)
  have hp13 : 2 ^ Df.dxt x6 ≤ 2 ^ 13 := Nat.pow_le_pow_right (by decide) hdb.1
  refine Kk $ Kb $ Km rfl $ E.call rfl rfl (rdistanceOf_ret x6 _ hx6) ?_
  rintro _ w9 ⟨rfl, x9⟩
  have hM := hM.ext x9
  try dsimp only [Za, Zb, Zc, Zd, repl] at hM
  refine Km rfl $ E.ext rfl rfl rfl $ E.ext rfl rfl rfl $ Kn rfl $ Kd rfl $ Kf rfl $ Km rfl $ E.call rfl rfl (bits34_ret (Df.dxt x6) b a6 lim p vs 0 l _ (hM.pick [0] (by decide)).sep (hM.arg hp ho) ((hM.pick [0] (by decide)).offS hp ho) (by omega) hl (by omega)) ?_
  rintro _ w10 ⟨x10, a10, e10, rfl, m10, hr10, ha10, hb10⟩
  have hM := hM.calls [0] (by decide) rfl (by simp) m10
  try dsimp only [Za, Zb, Zc, Zd, repl] at hM
  have hx10 := hr10.bits_lt
  obtain ⟨hme, hmo⟩ := hmd.last hr10
  try dsimp only [Za, Zb, Zc, Zd, repl] at hM
  refine E.addN (a := Df.dls x6) (b := x10) rfl rfl (by omega) rfl $ Kd rfl $ Km rfl $ E.nilc rfl rfl $ E.fld (o := 4) (sz := 0) rfl U107 rfl rfl (by kernel_rfl) rfl $ E.load rfl U26 rfl (hM.bcell 0 rfl rfl) rfl $ Kp rfl $ Ka $ C.cond' rfl (fun hC6 => ?_) (fun hC6 => ?_)
  ·
   obtain rfl : e10 = 0 := by omega
   refine C.region $ Kf rfl $ Km rfl $ E.call rfl rfl (match34_ret b a10 lim (Df.lls x1 + x5) (Df.dls x6 + x10) p vs o _ (hM.pick [0, 1] (by decide)).sep (by omega) (by omega) hoo hlim) ?_
   rintro _ w11 ⟨vn, o', m11, ho', hrp⟩
   have hM := hM.calls [0, 1] (by decide) rfl (by simp) m11
   try dsimp only [Za, Zb, Zc, Zd, repl] at hM
   try dsimp only [Za, Zb, Zc, Zd, repl] at hM
   refine E.nil $ X.outN $ X.again4 a10 vn o' _ (Sub.nil _) rfl ⟨hM, hT.mat k1 (by omega) hs2 (hmo rfl) ho' hrp⟩ (Df.BM_lt (by omega) hb10)
  refine C.skip $ X.outN $ X.again4 a10 vs o e10 (Sub.nil _) rfl ⟨hM, hT.merr k1 (by omega) hs2 hC6 (hme hC6) (show a10 ≤ (Df.ub l).length by omega)⟩ (Df.BM_lt (by omega) hb10)
 refine C.exit $ X.exitT $ X.exitT $ X.outE $ end0 rfl ?_
 exact ⟨vs, o, aa, ee, hM, hT.err (by omega), by have := hT.2.1; omega, hT.1⟩
end Go.Proofs.YtajklleiifhipaaGreatDoor
