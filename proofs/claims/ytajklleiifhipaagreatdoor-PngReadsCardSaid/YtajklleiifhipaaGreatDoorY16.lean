/- Texts of the claim, laid together: Df18, Df19, Df20, Df21. -/
import Derived.Laws.IdiomCopy
import Derived.Test.YtajklleiifhipaaGreatDoorY0
import Derived.Test.YtajklleiifhipaaGreatDoorY3
import Derived.Test.YtajklleiifhipaaGreatDoorY5
import Derived.Test.YtajklleiifhipaaGreatDoorY13
import Derived.Test.YtajklleiifhipaaGreatDoorY15
set_option linter.unusedSimpArgs false
set_option linter.unusedVariables false
namespace Go.Proofs.YtajklleiifhipaaGreatDoor
open Go.RowKit Sym
theorem Sym.M.offS {α : Type} {enc : α → Value} {w0 w : World} {S : Nat → Prop} {rs : List Rg} {v : Value} {l : List α} (h : M w0 S w rs) (hR : RdL enc w0 v l) (ho : Off S v l) : Off (fpU rs) v l := by
  cases l with
  | nil => exact .inl rfl
  | cons a l =>
    refine .inr fun ⟨i, r, hi, hk⟩ => ?_
    have h1 := hR.lt (by simp)
    rcases h.mine i r hi _ hk with h2 | h2
    · rcases ho with ho | ho
      · cases ho
      exact ho h2
    omega
theorem rbits_lt {n : Nat} {B : List Bool} {a x e : Nat} (h : Df.rbits n B a = .ok (x, e)) : x < 2 ^ n ∧ e = a + n ∧ e ≤ B.length := by
 unfold Df.rbits at h
 split at h
 · cases h
 cases h; exact ⟨Df.bs_lt _ _ _, rfl, by omega⟩
namespace Df
noncomputable def rmx (D : List Nat) (s lim : Nat) (B : List Bool) (a : Nat) (out : List UInt8) : Except Int (List UInt8 × Nat) :=
 match rmt D s B a with
 | .error e => .error e
 | .ok ((n, d), a2) => if out.length < d then .error 28 else if lim < out.length + n then .error 4 else .ok (rp d out n, a2)
theorem rmx_err {D : List Nat} {s lim : Nat} {B : List Bool} {a : Nat} {out : List UInt8} {e : Int} (h : rmt D s B a = .error e) : rmx D s lim B a out = .error e := by unfold rmx; rw [h]
theorem rmx_ok {D : List Nat} {s lim : Nat} {B : List Bool} {a a2 n d : Nat} {out : List UInt8} (h : rmt D s B a = .ok ((n, d), a2)) : rmx D s lim B a out = if out.length < d then .error 28 else if lim < out.length + n then .error 4 else .ok (rp d out n, a2) := by unfold rmx; rw [h]
theorem tk_rmx {L D : List Nat} {lim : Nat} {B : List Bool} {a a1 s : Nat} {out : List UInt8} (ha : a ≤ B.length) (h : rsym L B a = .ok (s, a1)) (h2 : 256 < s) (h3 : s ≤ 285) : tk L D lim B a out = match rmx D s lim B a1 out with | .error e => .error e | .ok (o, a2) => tk L D lim B a2 o := by
 cases h4 : rmt D s B a1 with
 | error e => rw [tk_merr h h2 h3 h4, rmx_err h4]
 | ok q =>
  obtain ⟨⟨n, d⟩, a2⟩ := q
  rw [tk_mat ha h h2 h3 h4, rmx_ok h4]
  split
  · rfl
  split <;> rfl
theorem rmx_adv {D : List Nat} {s lim : Nat} {B : List Bool} {a e : Nat} {out x : List UInt8} (ha : a ≤ B.length) (h : rmx D s lim B a out = .ok (x, e)) : a ≤ e ∧ e ≤ B.length := by
 cases h4 : rmt D s B a with
 | error z => rw [rmx_err h4] at h; cases h
 | ok q =>
  obtain ⟨⟨n, d⟩, a2⟩ := q
  rw [rmx_ok h4] at h
  have := rmt_adv ha h4
  split at h
  · cases h
  split at h
  · cases h
  cases h; exact this
end Df
set_option maxHeartbeats 4000000 in
set_option maxRecDepth 4000 in
theorem match_ret (bd s : Nat) (vs : Value) (D : List Nat) (out : List UInt8) (b a lim : Nat) (p vo fv : Value) (l : List UInt8) (w : World) (hs : Sep w [Rg.blk b 102 [p, i64 ((a : Nat) : Int), i64 (lim : Int), vo, fv], Rg.sl u8 5 vo out, Sym.Ax bd 174 16 (fun n => (Df.cn D n : Int)) [vs, i64 (Df.mx D : Int)], Rg.sl i64 3 vs (nz (Pf.od D))]) (hp : RdL u8 w p l) (ho : Off (fpU [Rg.blk b 102 [p, i64 ((a : Nat) : Int), i64 (lim : Int), vo, fv], Rg.sl u8 5 vo out, Sym.Ax bd 174 16 (fun n => (Df.cn D n : Int)) [vs, i64 (Df.mx D : Int)], Rg.sl i64 3 vs (nz (Pf.od D))]) p l) (ha : a ≤ 8 * l.length) (hl : l.length ≤ 1099511627776) (hc : Df.Code D) (hcL : D.length ≤ 4294967296) (h1 : 257 ≤ s) (h2 : s ≤ 285) (hol : out.length ≤ lim) (hlim : lim ≤ 16777216) :
  Ret Tryz.prog 151 #[pv b, i64 s, pv bd] w fun v w' => ∃ (vo' : Value) (out' : List UInt8) (a' : Nat) (e : Int), v = i64 e ∧ M w (fpU [Rg.blk b 102 [p, i64 ((a : Nat) : Int), i64 (lim : Int), vo, fv], Rg.sl u8 5 vo out, Sym.Ax bd 174 16 (fun n => (Df.cn D n : Int)) [vs, i64 (Df.mx D : Int)], Rg.sl i64 3 vs (nz (Pf.od D))]) w' [Rg.blk b 102 [p, i64 ((a' : Nat) : Int), i64 (lim : Int), vo', fv], Rg.sl u8 5 vo' out', Sym.Ax bd 174 16 (fun n => (Df.cn D n : Int)) [vs, i64 (Df.mx D : Int)], Rg.sl i64 3 vs (nz (Pf.od D))] ∧ Rds (Df.rmx D s lim (Df.ub l) a out) out' a' e ∧ out'.length ≤ lim := by
 have hM := M.startS hs
 refine enter Tryz.func151 rfl (by kernel_rfl) Tryz.ntmps151 rfl $ Kb $ Kd rfl $ Km rfl $ E.call rfl rfl (lengthOf_ret s _ h1 h2) ?_
 rintro _ w1 ⟨rfl, x1⟩
 have hM := hM.ext x1
 have hul := Df.ub_len l
 have hxb := Df.lx_bd s (by omega)
 refine Km rfl $ E.ext rfl rfl rfl $ E.ext rfl rfl rfl $ Kn rfl $ Kd rfl $ Kf rfl $ E.call rfl rfl (sbits_ret (Df.lxt s) b a lim p vo fv l _ (hM.pick [0] (by decide)).sep (hM.arg hp ho) ((hM.pick [0] (by decide)).offS hp ho) (by omega) hl (by omega)) ?_
 rintro _ w2 ⟨x2, a2, e2, rfl, m, hr2⟩
 have hM := hM.calls [0] (by decide) rfl (by simp) m
 refine Km rfl $ E.ext rfl rfl rfl $ E.ext rfl rfl rfl $ Kn rfl $ Kc rfl $ C.seq $ Kb $ Km rfl $ Kp rfl $ Ka $ C.cond' rfl (fun hC0 => ?_) (fun hC0 => ?_)
 ·
  refine Kb $ Km rfl $ Kc rfl $ C.ret $ X.retT $ ret1 rfl rfl ?_
  exact ⟨vo, out, a2, e2, rfl, hM, .err hC0 (Df.rmx_err (by unfold Df.rmt; rw [Df.bnd_err (hr2.bad hC0)])), hol⟩
 have hq2 := hr2.good hC0
 obtain ⟨hx2, he2, hb2⟩ := rbits_lt hq2
 have hp5 : 2 ^ Df.lxt s ≤ 2 ^ 5 := Nat.pow_le_pow_right (by decide) (by omega)
 refine Kk $ Kb $ Kf rfl $ E.addN (a := Df.lls s) (b := x2) rfl rfl (by omega) rfl $ Kd rfl $ Kf rfl $ E.call rfl rfl (ssym_ret bd vs D b a2 lim p vo fv l _ (hM.pick [0, 2, 3] (by decide)).sep (hM.arg hp ho) ((hM.pick [0, 2, 3] (by decide)).offS hp ho) (by omega) hl hc hcL) ?_
 rintro _ w3 ⟨x3, a3, e3, rfl, m, hr3⟩
 have hM := hM.calls [0, 2, 3] (by decide) rfl (by simp) m
 refine Km rfl $ E.ext rfl rfl rfl $ E.ext rfl rfl rfl $ Kn rfl $ Kc rfl $ C.seq $ Kb $ Km rfl $ Kp rfl $ Ka $ C.cond' rfl (fun hC1 => ?_) (fun hC1 => ?_)
 ·
  refine Kb $ Km rfl $ Kc rfl $ C.ret $ X.retT $ ret1 rfl rfl ?_
  exact ⟨vo, out, a3, e3, rfl, hM, .err hC1 (Df.rmx_err (by unfold Df.rmt; rw [Df.bnd_ok hq2, Df.bnd_err (hr3.bad hC1)])), hol⟩
 have hq3 := hr3.good hC1
 have hv3 := Df.rsym_adv (by omega) hq3
 refine Kk $ C.seq $ Kb $ Km rfl $ Kp rfl $ Ka $ C.cond' rfl (fun hC2 => ?_) (fun hC2 => ?_)
 ·
  refine Kb $ Kc rfl $ C.ret $ X.retT $ ret1 rfl rfl ?_
  exact ⟨vo, out, a3, 9, rfl, hM, .err (by decide) (Df.rmx_err (by unfold Df.rmt; rw [Df.bnd_ok hq2, Df.bnd_ok hq3, if_pos (by omega)])), hol⟩
 have hxd := Df.dx_bd x3 (by omega)
 refine Kk $ Kb $ Km rfl $ E.call rfl rfl (distanceOf_ret x3 _ (by omega)) ?_
 rintro _ w4 ⟨rfl, x4⟩
 have hM := hM.ext x4
 refine Km rfl $ E.ext rfl rfl rfl $ E.ext rfl rfl rfl $ Kn rfl $ Kd rfl $ Kf rfl $ E.call rfl rfl (sbits_ret (Df.dxt x3) b a3 lim p vo fv l _ (hM.pick [0] (by decide)).sep (hM.arg hp ho) ((hM.pick [0] (by decide)).offS hp ho) (by omega) hl (by omega)) ?_
 rintro _ w5 ⟨x5, a5, e5, rfl, m, hr5⟩
 have hM := hM.calls [0] (by decide) rfl (by simp) m
 refine Km rfl $ E.ext rfl rfl rfl $ E.ext rfl rfl rfl $ Kn rfl $ Kc rfl $ C.seq $ Kb $ Km rfl $ Kp rfl $ Ka $ C.cond' rfl (fun hC3 => ?_) (fun hC3 => ?_)
 ·
  refine Kb $ Km rfl $ Kc rfl $ C.ret $ X.retT $ ret1 rfl rfl ?_
  exact ⟨vo, out, a5, e5, rfl, hM, .err hC3 (Df.rmx_err (by unfold Df.rmt; rw [Df.bnd_ok hq2, Df.bnd_ok hq3, if_neg (by omega), Df.bnd_err (hr5.bad hC3)])), hol⟩
 have hq5 := hr5.good hC3
 obtain ⟨hx5, he5, hb5⟩ := rbits_lt hq5
 have hp13 : 2 ^ Df.dxt x3 ≤ 2 ^ 13 := Nat.pow_le_pow_right (by decide) (by omega)
 have hmt : Df.rmt D s (Df.ub l) a = .ok ((Df.lls s + x2, Df.dls x3 + x5), a5) := by unfold Df.rmt; rw [Df.bnd_ok hq2, Df.bnd_ok hq3, if_neg (by omega), Df.bnd_ok hq5]
 have hrx := Df.rmx_ok (lim := lim) (out := out) hmt
 refine Kk $ Kb $ Kf rfl $ E.addN (a := Df.dls x3) (b := x5) rfl rfl (by omega) rfl $ Kc rfl $ C.seq $ Kb $ Kf rfl $ E.nilc rfl rfl $ E.fld (o := 3) (sz := 0) rfl U102 rfl rfl (by kernel_rfl) rfl $ E.load rfl U22 rfl (hM.bcell 0 rfl rfl) rfl $ E.lenv rfl (Rd.shape (hM.sl 1 rfl)) U22 rfl $ Kp rfl $ Ka $ C.cond' rfl (fun hC4 => ?_) (fun hC4 => ?_)
 ·
  refine Kb $ Kc rfl $ C.ret $ X.retT $ ret1 rfl rfl ?_
  exact ⟨vo, out, a5, 28, rfl, hM, .err (by decide) (by rw [hrx, if_pos (by omega)]), hol⟩
 refine Kk $ C.seq $ C.seq $ C.drawn (by kernel_rfl) (by kernel_rfl) $ Q.mv rfl rfl $ Q.nilc rfl rfl $ Q.fld (o := 3) (sz := 0) rfl U102 rfl rfl (by kernel_rfl) rfl $ Q.load rfl U22 rfl (hM.bcell 0 rfl rfl) rfl $ Q.lenv rfl (Rd.shape (hM.sl 1 rfl)) U22 rfl $ Q.mv rfl rfl $ Q.addN (a := out.length) (b := Df.lls s + x2) rfl rfl (by omega) rfl $ Q.mv rfl rfl $ Q.nilc rfl rfl $ Q.fld (o := 2) (sz := 0) rfl U102 rfl rfl (by kernel_rfl) rfl $ Q.load rfl U3 rfl (hM.bcell 0 rfl rfl) rfl $ Q.bin rfl rfl rfl rfl $ Q.nil $ fun w5 hx5 => ?_
 have hM := hM.ext hx5
 refine X.next $ C.cond' rfl (fun hC5 => ?_) (fun hC5 => ?_)
 ·
  refine Kb $ Kc rfl $ C.ret $ X.retT $ ret1 rfl rfl ?_
  exact ⟨vo, out, a5, 4, rfl, hM, .err (by decide) (by rw [hrx, if_neg (by omega), if_pos (by omega)]), hol⟩
 refine Kk $ Kb $ Kf rfl $ E.nilc rfl rfl $ E.fld (o := 3) (sz := 0) rfl U102 rfl rfl (by kernel_rfl) rfl $ E.load rfl U22 rfl (hM.bcell 0 rfl rfl) rfl $ Kf rfl $ E.call rfl rfl (repeat_ret vo out (Df.lls s + x2) (Df.dls x3 + x5) _ (hM.pick [1] (by decide)).sep (by omega) (by omega) (by omega)) ?_
 rintro v84 w6 m
 have hM := hM.calls [1] (by decide) rfl (by simp) m
 refine E.nilc rfl rfl $ E.fld (o := 3) (sz := 0) rfl U102 rfl rfl (by kernel_rfl) rfl $ E.storeM 0 hM rfl rfl rfl (by kernel_rfl) (hM.sl 1 rfl).one rfl ?_
 intro w7 hM
 refine Ke $ Kc rfl $ C.ret $ ret1 rfl rfl ?_
 exact ⟨v84, _, a5, 0, rfl, hM, .ok (by rw [hrx, if_neg (by omega), if_neg (by omega)]), by rw [Df.rp_len]; omega⟩
set_option maxHeartbeats 4000000 in
set_option maxRecDepth 4000 in
theorem stokens_ret (bl bd : Nat) (vl vs : Value) (L D : List Nat) (out0 : List UInt8) (b a0 lim : Nat) (p vo0 fv : Value) (l : List UInt8) (w : World) (hs : Sep w [Rg.blk b 102 [p, i64 ((a0 : Nat) : Int), i64 (lim : Int), vo0, fv], Rg.sl u8 5 vo0 out0, Sym.Ax bl 174 16 (fun n => (Df.cn L n : Int)) [vl, i64 (Df.mx L : Int)], Rg.sl i64 3 vl (nz (Pf.od L)), Sym.Ax bd 174 16 (fun n => (Df.cn D n : Int)) [vs, i64 (Df.mx D : Int)], Rg.sl i64 3 vs (nz (Pf.od D))]) (hp : RdL u8 w p l) (ho : Off (fpU [Rg.blk b 102 [p, i64 ((a0 : Nat) : Int), i64 (lim : Int), vo0, fv], Rg.sl u8 5 vo0 out0, Sym.Ax bl 174 16 (fun n => (Df.cn L n : Int)) [vl, i64 (Df.mx L : Int)], Rg.sl i64 3 vl (nz (Pf.od L)), Sym.Ax bd 174 16 (fun n => (Df.cn D n : Int)) [vs, i64 (Df.mx D : Int)], Rg.sl i64 3 vs (nz (Pf.od D))]) p l) (ha0 : a0 ≤ 8 * l.length) (hl : l.length ≤ 1099511627776) (hcL : Df.Code L) (hcD : Df.Code D) (hLl : L.length ≤ 4294967296) (hDl : D.length ≤ 4294967296) (hol0 : out0.length ≤ lim) (hlim : lim ≤ 16777216) :
  Ret Tryz.prog 116 #[pv b, pv bl, pv bd] w fun v w' => ∃ (vo' : Value) (out' : List UInt8) (a' : Nat) (e : Int), v = i64 e ∧ M w (fpU [Rg.blk b 102 [p, i64 ((a0 : Nat) : Int), i64 (lim : Int), vo0, fv], Rg.sl u8 5 vo0 out0, Sym.Ax bl 174 16 (fun n => (Df.cn L n : Int)) [vl, i64 (Df.mx L : Int)], Rg.sl i64 3 vl (nz (Pf.od L)), Sym.Ax bd 174 16 (fun n => (Df.cn D n : Int)) [vs, i64 (Df.mx D : Int)], Rg.sl i64 3 vs (nz (Pf.od D))]) w' [Rg.blk b 102 [p, i64 ((a' : Nat) : Int), i64 (lim : Int), vo', fv], Rg.sl u8 5 vo' out', Sym.Ax bl 174 16 (fun n => (Df.cn L n : Int)) [vl, i64 (Df.mx L : Int)], Rg.sl i64 3 vl (nz (Pf.od L)), Sym.Ax bd 174 16 (fun n => (Df.cn D n : Int)) [vs, i64 (Df.mx D : Int)], Rg.sl i64 3 vs (nz (Pf.od D))] ∧ Rds (Df.tk L D lim (Df.ub l) a0 out0) out' a' e ∧ out'.length ≤ lim := by
 have hM := M.startS hs
 refine enter Tryz.func116 rfl (by kernel_rfl) Tryz.ntmps116 rfl $ Kb $ Kc rfl $ C.block $ ?_
 have hul := Df.ub_len l
 refine C.loop3 [(0, _), (1, _), (2, _)] rfl (fun (a : Nat) (out : (List UInt8)) (vo : Value) => []) (fun (a : Nat) (out : (List UInt8)) (vo : Value) w' => M w (fpU [Rg.blk b 102 [p, i64 ((a0 : Nat) : Int), i64 (lim : Int), vo0, fv], Rg.sl u8 5 vo0 out0, Sym.Ax bl 174 16 (fun n => (Df.cn L n : Int)) [vl, i64 (Df.mx L : Int)], Rg.sl i64 3 vl (nz (Pf.od L)), Sym.Ax bd 174 16 (fun n => (Df.cn D n : Int)) [vs, i64 (Df.mx D : Int)], Rg.sl i64 3 vs (nz (Pf.od D))]) w' [Rg.blk b 102 [p, i64 ((a : Nat) : Int), i64 (lim : Int), vo, fv], Rg.sl u8 5 vo out, Sym.Ax bl 174 16 (fun n => (Df.cn L n : Int)) [vl, i64 (Df.mx L : Int)], Rg.sl i64 3 vl (nz (Pf.od L)), Sym.Ax bd 174 16 (fun n => (Df.cn D n : Int)) [vs, i64 (Df.mx D : Int)], Rg.sl i64 3 vs (nz (Pf.od D))] ∧ Df.tk L D lim (Df.ub l) a0 out0 = Df.tk L D lim (Df.ub l) a out ∧ a ≤ 8 * l.length ∧ out.length ≤ lim) (fun (a : Nat) (out : (List UInt8)) (vo : Value) => 8 * l.length - a) a0 out0 vo0 ?_ ?_ ?_
 · exact Sub.nil _
 · exact ⟨hM, rfl, ha0, hol0⟩
 rintro a out vo w0 ⟨hM, htk, ha, hol⟩
 refine C.block $ Kb $ Kf rfl $ E.call rfl rfl (ssym_ret bl vl L b a lim p vo fv l _ (hM.pick [0, 2, 3] (by decide)).sep (hM.arg hp ho) ((hM.pick [0, 2, 3] (by decide)).offS hp ho) (by omega) hl hcL hLl) ?_
 rintro _ w1 ⟨x1, a1, e1, rfl, m, hr1⟩
 have hM := hM.calls [0, 2, 3] (by decide) rfl (by simp) m
 refine Km rfl $ E.ext rfl rfl rfl $ E.ext rfl rfl rfl $ Kn rfl $ Kc rfl $ C.seq $ C.block $ Kb $ Km rfl $ Kp rfl $ Kc rfl $ C.cond' rfl (fun hC0 => ?_) (fun hC0 => ?_)
 ·
  refine Kb $ Km rfl $ Kc rfl $ C.ret $ X.retB $ X.retT $ X.retB $ X.retT $ X.retB $ ret1 rfl rfl ?_
  exact ⟨vo, out, a1, e1, rfl, hM, .err hC0 (by rw [htk, Df.tk_err (hr1.bad hC0)]), hol⟩
 have hq1 := hr1.good hC0
 have hv1 := Df.rsym_adv (by omega) hq1
 refine Kb $ Km rfl $ Kp rfl $ Kc rfl $ C.cond' rfl (fun hC1 => ?_) (fun hC1 => ?_)
 ·
  obtain rfl : x1 = 256 := by omega
  refine Kb $ Kc rfl $ C.ret $ X.retB $ X.retT $ X.retB $ X.retT $ X.retB $ ret1 rfl rfl ?_
  exact ⟨vo, out, a1, 0, rfl, hM, .ok (by rw [htk, Df.tk_end hq1]), hol⟩
 refine Kb $ Km rfl $ Kp rfl $ Kc rfl $ C.cond' rfl (fun hC2 => ?_) (fun hC2 => ?_)
 ·
  refine Kb $ Kc rfl $ C.ret $ X.retB $ X.retT $ X.retB $ X.retT $ X.retB $ ret1 rfl rfl ?_
  exact ⟨vo, out, a1, 9, rfl, hM, .err (by decide) (by rw [htk, Df.tk_bad hq1 (by omega)]), hol⟩
 refine Kb $ Km rfl $ Kp rfl $ Kc rfl $ C.cond' rfl (fun hC3 => ?_) (fun hC3 => ?_)
 ·
  have hmx := Df.tk_rmx (D := D) (lim := lim) (out := out) (by omega) hq1 (by omega) (by omega)
  rw [hmx] at htk
  refine C.seq $ Kb $ Kf rfl $ Km rfl $ E.call rfl rfl (match_ret bd x1 vs D out b a1 lim p vo fv l _ (hM.pick [0, 1, 4, 5] (by decide)).sep (hM.arg hp ho) ((hM.pick [0, 1, 4, 5] (by decide)).offS hp ho) (by omega) hl hcD hDl (by omega) (by omega) hol hlim) ?_
  rintro _ w2 ⟨vo2, out2, a2, e2, rfl, m, hr2, hol2⟩
  have hM := hM.calls [0, 1, 4, 5] (by decide) rfl (by simp) m
  refine Kd rfl $ Km rfl $ Kp rfl $ Ka $ C.cond' rfl (fun hC4 => ?_) (fun hC4 => ?_)
  ·
   refine Kb $ Km rfl $ Kc rfl $ C.ret $ X.retT $ X.retB $ X.retT $ X.retB $ X.retT $ X.retB $ ret1 rfl rfl ?_
   exact ⟨vo2, out2, a2, e2, rfl, hM, .err hC4 (by rw [htk, hr2.bad hC4]), hol2⟩
  have hq2 := hr2.good hC4
  rw [hq2] at htk
  have hv2 := Df.rmx_adv (by omega) hq2
  refine Kk $ C.exit $ X.outNe rfl $ X.exitT $ X.outE $ X.again3 a2 out2 vo2 (Sub.nil _) rfl ⟨hM, htk, by omega, hol2⟩ (by omega)
 have hlt : x1 < 256 := by omega
 rw [Df.tk_lit (by omega) hq1 hlt] at htk
 refine C.skip $ X.outN $ X.next $ C.seq $ C.seq $ C.drawn (by kernel_rfl) (by kernel_rfl) $ Q.mv rfl rfl $ Q.nilc rfl rfl $ Q.fld (o := 3) (sz := 0) rfl U102 rfl rfl (by kernel_rfl) rfl $ Q.load rfl U22 rfl (hM.bcell 0 rfl rfl) rfl $ Q.lenv rfl (Rd.shape (hM.sl 1 rfl)) U22 rfl $ Q.mv rfl rfl $ Q.nilc rfl rfl $ Q.fld (o := 2) (sz := 0) rfl U102 rfl rfl (by kernel_rfl) rfl $ Q.load rfl U3 rfl (hM.bcell 0 rfl rfl) rfl $ Q.bin rfl rfl rfl rfl $ Q.nil $ fun w3 hx3 => ?_
 have hM := hM.ext hx3
 refine X.next $ C.cond' rfl (fun hC5 => ?_) (fun hC5 => ?_)
 ·
  refine Kb $ Kc rfl $ C.ret $ X.retT $ X.retB $ X.retT $ X.retB $ ret1 rfl rfl ?_
  exact ⟨vo, out, a1, 4, rfl, hM, .err (by decide) (by rw [htk, if_pos (by omega)]), hol⟩
 rw [if_neg (by omega)] at htk
 refine Kk $ C.region $ Kf rfl $ E.nilc rfl rfl $ E.fld (o := 3) (sz := 0) rfl U102 rfl rfl (by kernel_rfl) rfl $ E.load rfl U22 rfl (hM.bcell 0 rfl rfl) rfl $ Km rfl $ E.conv rfl U3 U5 (IntWalk.u8_in _ (by omega)) rfl $ E.pushM (enc := u8) 1 (UInt8.ofNat x1) hM rfl rfl (look_eq rfl (by rw [ofNat_u8 (by omega)])) U22 elem_Tuint8 rfl (by omega) (by omega) (by simp) rfl rfl ?_
 intro v54 u54 w4 hM
 refine E.nilc rfl rfl $ E.fld (o := 3) (sz := 0) rfl U102 rfl rfl (by kernel_rfl) rfl $ E.storeM 0 hM rfl rfl rfl (by kernel_rfl) (hM.sl 1 rfl).one rfl ?_
 intro w5 hM
 refine E.nil $ X.outN $ X.again3 a1 (out ++ [UInt8.ofNat x1]) v54 (Sub.nil _) rfl ⟨hM, htk, by omega, by rw [List.length_append, List.length_singleton]; omega⟩ (by omega)
end Go.Proofs.YtajklleiifhipaaGreatDoor
namespace Go.Proofs.YtajklleiifhipaaGreatDoor
open Go.RowKit Sym
theorem Sym.C.heldX {P : Program} {Q : Exit → Act → World → Prop} {s : St} {env : Env} {w0 w : World} {S : Nat → Prop} {rs : List Rg} {id : Nat} {l : List Oper} {Sh : World → Prop} (hM : M w0 S w rs) (hm : P.follows .mixedOrders = true) (h : ∀ w', M w0 S w' rs → wpH P l.toArray Q Sh s l.length (Array.replicate l.length false) env w') : wpC P (.region id l.toArray true) Q s env w :=
 C.held _ hm fun w' hx _ => h w' (hM.ext hx)
theorem xor_i64 {a b : Nat} (ha : a < 65536) (hb : b < 65536) : bits .xor .i64 (a : Int) (b : Int) = ((a ^^^ b : Nat) : Int) := i64_xor_nat a b (by omega) (by omega)
namespace Df
theorem us_snoc {l : List Nat} {i : Nat} (h : i < l.length) : us (l.take (i + 1)) = us (l.take i) + if 0 < l[i] then 1 else 0 := by
 unfold us
 rw [List.take_add_one, List.getElem?_eq_getElem h, List.filter_append, List.length_append]
 by_cases c : 0 < l[i]
 · simp [c]
 simp [c]
theorem us_le (l : List Nat) : us l ≤ l.length := List.length_filter_le _ _
theorem sum_snoc {l : List Nat} {i : Nat} (h : i < l.length) : (l.take (i + 1)).sum = (l.take i).sum + l[i] := by
 rw [List.take_add_one, List.getElem?_eq_getElem h, List.sum_append]; simp
theorem sum_bd : ∀ (l : List Nat) (m : Nat), (∀ n ∈ l, n ≤ m) → l.sum ≤ l.length * m
 | [], _, _ => by simp
 | x :: l, m, h => by
  have h1 := sum_bd l m fun n hn => h n (List.mem_cons_of_mem _ hn)
  have h2 := h x (List.mem_cons_self ..)
  simp only [List.sum_cons, List.length_cons, Nat.add_mul, Nat.one_mul]; omega
end Df
set_option maxHeartbeats 4000000 in
set_option maxRecDepth 4000 in
theorem sstored_ret (out : List UInt8) (b a lim : Nat) (p vo fv : Value) (l : List UInt8) (w : World) (hs : Sep w [Rg.blk b 102 [p, i64 ((a : Nat) : Int), i64 (lim : Int), vo, fv], Rg.sl u8 5 vo out]) (hp : RdL u8 w p l) (ho : Off (fpU [Rg.blk b 102 [p, i64 ((a : Nat) : Int), i64 (lim : Int), vo, fv], Rg.sl u8 5 vo out]) p l) (ha : a ≤ 8 * l.length) (hl : l.length ≤ 1099511627776) (hol : out.length ≤ lim) (hlim : lim ≤ 16777216) :
  Ret Tryz.prog 114 #[pv b] w fun v w' => ∃ (vo' : Value) (out' : List UInt8) (a' : Nat) (e : Int), v = i64 e ∧ M w (fpU [Rg.blk b 102 [p, i64 ((a : Nat) : Int), i64 (lim : Int), vo, fv], Rg.sl u8 5 vo out]) w' [Rg.blk b 102 [p, i64 ((a' : Nat) : Int), i64 (lim : Int), vo', fv], Rg.sl u8 5 vo' out'] ∧ Rds (Df.rsto lim l out (Df.ub l) a) out' a' e ∧ out'.length ≤ lim := by
 have hM := M.startS hs
 refine enter Tryz.func114 rfl (by kernel_rfl) Tryz.ntmps114 rfl $ Kb $ Kd rfl $ Kf rfl $ E.nilc rfl rfl $ E.fld (o := 1) (sz := 0) rfl U102 rfl rfl (by kernel_rfl) rfl ?_
 have hul := Df.ub_len l
 refine E.load rfl U3 rfl (hM.bcell 0 rfl rfl) rfl $ E.addN (a := a) (b := 7) rfl rfl (by omega) rfl $ E.quo rfl rfl (by omega) (quoN (a := a + 7) (b := 8) (by omega) (by omega)) rfl $ E.mulN (a := (a + 7) / 8) (b := 8) rfl rfl (by omega) rfl $ E.nilc rfl rfl $ E.fld (o := 1) (sz := 0) rfl U102 rfl rfl (by kernel_rfl) rfl $ E.storeM 0 hM rfl rfl rfl (by kernel_rfl) rfl rfl ?_
 intro w0 hM
 refine Ke $ Km rfl $ E.call rfl rfl (sbits_ret 16 b ((a + 7) / 8 * 8) lim p vo fv l _ (hM.pick [0] (by decide)).sep (hM.arg hp ho) ((hM.pick [0] (by decide)).offS hp ho) (by omega) hl (by omega)) ?_
 rintro _ w1 ⟨x1, a1, e1, rfl, m, hr1⟩
 have hM := hM.calls [0] (by decide) rfl (by simp) m
 refine Km rfl $ E.ext rfl rfl rfl $ E.ext rfl rfl rfl $ Kn rfl $ Kc rfl $ C.seq $ Kb $ Km rfl $ Kp rfl $ Ka $ C.cond' rfl (fun hC0 => ?_) (fun hC0 => ?_)
 ·
  refine Kb $ Km rfl $ Kc rfl $ C.ret $ X.retT $ ret1 rfl rfl ?_
  exact ⟨vo, out, a1, e1, rfl, hM, .err hC0 (by unfold Df.rsto; rw [hr1.bad hC0]), hol⟩
 have hq1 := hr1.good hC0
 obtain ⟨hx1, he1, hb1⟩ := rbits_lt hq1
 refine Kk $ Kb $ Km rfl $ E.call rfl rfl (sbits_ret 16 b a1 lim p vo fv l _ (hM.pick [0] (by decide)).sep (hM.arg hp ho) ((hM.pick [0] (by decide)).offS hp ho) (by omega) hl (by omega)) ?_
 rintro _ w2 ⟨x2, a2, e2, rfl, m, hr2⟩
 have hM := hM.calls [0] (by decide) rfl (by simp) m
 refine Km rfl $ E.ext rfl rfl rfl $ E.ext rfl rfl rfl $ Kn rfl $ Kc rfl $ C.seq $ Kb $ Km rfl $ Kp rfl $ Ka $ C.cond' rfl (fun hC1 => ?_) (fun hC1 => ?_)
 ·
  refine Kb $ Km rfl $ Kc rfl $ C.ret $ X.retT $ ret1 rfl rfl ?_
  exact ⟨vo, out, a2, e2, rfl, hM, .err hC1 (by unfold Df.rsto; rw [hq1]; simp only; rw [hr2.bad hC1]), hol⟩
 have hq2 := hr2.good hC1
 obtain ⟨hx2, he2, hb2⟩ := rbits_lt hq2
 have hrs : Df.rsto lim l out (Df.ub l) a = if x1 ^^^ x2 ≠ 65535 then .error 9 else if lim < out.length + x1 then .error 4 else if l.length < a2 / 8 + x1 then .error 10 else .ok (out ++ (l.drop (a2 / 8)).take x1, a2 + 8 * x1) := by unfold Df.rsto; rw [hq1]; simp only; rw [hq2]
 refine Kk $ C.seq $ Kb $ Kf rfl $ E.binw rfl rfl rfl (congrArg _ (xor_i64 hx1 hx2)) rfl $ Kp rfl $ Ka $ C.cond' rfl (fun hC2 => ?_) (fun hC2 => ?_)
 ·
  refine Kb $ Kc rfl $ C.ret $ X.retT $ ret1 rfl rfl ?_
  exact ⟨vo, out, a2, 9, rfl, hM, .err (by decide) (by rw [hrs, if_pos (by omega)]), hol⟩
 refine Kk $ C.seq $ C.seq $ C.drawn (by kernel_rfl) (by kernel_rfl) $ Q.mv rfl rfl $ Q.nilc rfl rfl $ Q.fld (o := 3) (sz := 0) rfl U102 rfl rfl (by kernel_rfl) rfl $ Q.load rfl U22 rfl (hM.bcell 0 rfl rfl) rfl $ Q.lenv rfl (Rd.shape (hM.sl 1 rfl)) U22 rfl $ Q.mv rfl rfl $ Q.addN (a := out.length) (b := x1) rfl rfl (by omega) rfl $ Q.mv rfl rfl $ Q.nilc rfl rfl $ Q.fld (o := 2) (sz := 0) rfl U102 rfl rfl (by kernel_rfl) rfl $ Q.load rfl U3 rfl (hM.bcell 0 rfl rfl) rfl $ Q.bin rfl rfl rfl rfl $ Q.nil $ fun w3 hx3 => ?_
 have hM := hM.ext hx3
 refine X.next $ C.cond' rfl (fun hC3 => ?_) (fun hC3 => ?_)
 ·
  refine Kb $ Kc rfl $ C.ret $ X.retT $ ret1 rfl rfl ?_
  exact ⟨vo, out, a2, 4, rfl, hM, .err (by decide) (by rw [hrs, if_neg (by omega), if_pos (by omega)]), hol⟩
 refine Kk $ Kb $ Km rfl $ E.nilc rfl rfl $ E.fld (o := 1) (sz := 0) rfl U102 rfl rfl (by kernel_rfl) rfl $ E.load rfl U3 rfl (hM.bcell 0 rfl rfl) rfl $ E.quo rfl rfl (by omega) (quoN (a := a2) (b := 8) (by omega) (by omega)) rfl $ Kc rfl $ C.seq $ Kb $ Kf rfl $ E.addN (a := a2 / 8) (b := x1) rfl rfl (by omega) rfl $ Km rfl $ E.nilc rfl rfl $ E.fld (o := 0) (sz := 0) rfl U102 rfl rfl (by kernel_rfl) rfl $ E.load rfl U22 rfl (hM.bcell 0 rfl rfl) rfl $ E.lenv rfl (Rd.shape (hM.arg hp ho)) U22 rfl $ Kp rfl $ Ka $ C.cond' rfl (fun hC4 => ?_) (fun hC4 => ?_)
 ·
  refine Kb $ Kc rfl $ C.ret $ X.retT $ ret1 rfl rfl ?_
  exact ⟨vo, out, a2, 10, rfl, hM, .err (by decide) (by rw [hrs, if_neg (by omega), if_neg (by omega), if_pos (by omega)]), hol⟩
 refine Kk $ C.seq $ C.heldX (Sh := fun w' => ∃ (vx : Value), M w (fpU [Rg.blk b 102 [p, i64 ((a : Nat) : Int), i64 (lim : Int), vo, fv], Rg.sl u8 5 vo out]) w' [Rg.blk b 102 [p, i64 ((a2 : Nat) : Int), i64 (lim : Int), vx, fv]]) hM (by kernel_rfl) fun wh4 hM => ?_
 have hS : ∃ (vx : Value), M w (fpU [Rg.blk b 102 [p, i64 ((a : Nat) : Int), i64 (lim : Int), vo, fv], Rg.sl u8 5 vo out]) wh4 [Rg.blk b 102 [p, i64 ((a2 : Nat) : Int), i64 (lim : Int), vx, fv]] := ⟨_, hM.pick [0] (by decide)⟩
 refine Kt 0 rfl (by kernel_rfl) hS (fun w' ⟨vx, hM⟩ => Y.mv rfl) rfl $ Kt 1 rfl (by kernel_rfl) hS (fun w' ⟨vx, hM⟩ => Y.mv rfl) rfl $ Kt 2 rfl (by kernel_rfl) hS (fun w' ⟨vx, hM⟩ => Y.nilc rfl) rfl $ Ku 3 rfl (by kernel_rfl) hS (Y.fld (o := 3) (sz := 0) rfl U102 rfl rfl (by kernel_rfl)) (fun w' ⟨vx, hM⟩ => Y.fld (o := 3) (sz := 0) rfl U102 rfl rfl (by kernel_rfl)) rfl $ Kt 5 rfl (by kernel_rfl) hS (fun w' ⟨vx, hM⟩ => Y.mv rfl) rfl $ Kt 6 rfl (by kernel_rfl) hS (fun w' ⟨vx, hM⟩ => Y.nilc rfl) rfl $ Ku 7 rfl (by kernel_rfl) hS (Y.fld (o := 0) (sz := 0) rfl U102 rfl rfl (by kernel_rfl)) (fun w' ⟨vx, hM⟩ => Y.fld (o := 0) (sz := 0) rfl U102 rfl rfl (by kernel_rfl)) rfl $ Kt 9 rfl (by kernel_rfl) hS (fun w' ⟨vx, hM⟩ => Y.mv rfl) rfl $ Kt 10 rfl (by kernel_rfl) hS (fun w' ⟨vx, hM⟩ => Y.mv rfl) rfl $ Kt 11 rfl (by kernel_rfl) hS (fun w' ⟨vx, hM⟩ => Y.mv rfl) rfl $ Kt 12 rfl (by kernel_rfl) hS (fun w' ⟨vx, hM⟩ => Y.addN (a := a2 / 8) (b := x1) rfl rfl (by omega)) rfl $ Ku 8 rfl (by kernel_rfl) hS (Y.load rfl U22 rfl (hM.bcell 0 rfl rfl)) (fun w' ⟨vx, hM⟩ => Y.load rfl U22 rfl (hM.bcell 0 rfl rfl)) rfl ?_
 refine Ku 13 rfl (by kernel_rfl) hS (Y.slcP (a2 / 8) (a2 / 8 + x1) rfl (.inl rfl) (.inl rfl) (hM.arg hp ho) U22 (by kernel_rfl) (by omega) (by omega)) (fun w' ⟨vx, hM⟩ => Y.slcP (a2 / 8) (a2 / 8 + x1) rfl (.inl rfl) (.inl rfl) (hM.arg hp ho) U22 (by kernel_rfl) (by omega) (by omega)) rfl ?_
 have hc := (hM.arg hp ho).partV (a := a2 / 8) (b := a2 / 8 + x1) (by omega) (by omega)
 have hcl : (cutL (a2 / 8) (a2 / 8 + x1) l).length = x1 := by unfold cutL; rw [List.length_take, List.length_drop]; omega
 refine H.only 4 rfl (by kernel_rfl) $ E.load rfl U22 rfl (hM.bcell 0 rfl rfl) rfl ?_
 have hS : ∃ (vx : Value), M w (fpU [Rg.blk b 102 [p, i64 ((a : Nat) : Int), i64 (lim : Int), vo, fv], Rg.sl u8 5 vo out]) _ [Rg.blk b 102 [p, i64 ((a2 : Nat) : Int), i64 (lim : Int), vx, fv]] := ⟨_, hM.pick [0] (by decide)⟩
 refine H.back hS $ H.only 14 rfl (by kernel_rfl) $ E.appendM 1 hM rfl rfl rfl U22 elem_Tuint8 hc (fun _ => rfl) (by omega) (by omega) rfl ?_
 intro v77 w5 hM
 have hS : ∃ (vx : Value), M w (fpU [Rg.blk b 102 [p, i64 ((a : Nat) : Int), i64 (lim : Int), vo, fv], Rg.sl u8 5 vo out]) _ [Rg.blk b 102 [p, i64 ((a2 : Nat) : Int), i64 (lim : Int), vx, fv]] := ⟨_, hM.pick [0] (by decide)⟩
 refine H.back hS $ Kt 15 rfl (by kernel_rfl) hS (fun w' ⟨vx, hM⟩ => Y.nilc rfl) rfl $ Ku 16 rfl (by kernel_rfl) hS (Y.fld (o := 3) (sz := 0) rfl U102 rfl rfl (by kernel_rfl)) (fun w' ⟨vx, hM⟩ => Y.fld (o := 3) (sz := 0) rfl U102 rfl rfl (by kernel_rfl)) rfl $ H.only 17 rfl (by kernel_rfl) $ E.storeM 0 hM rfl rfl rfl (by kernel_rfl) (hM.sl 1 rfl).one rfl ?_
 intro w6 hM
 have hS : ∃ (vx : Value), M w (fpU [Rg.blk b 102 [p, i64 ((a : Nat) : Int), i64 (lim : Int), vo, fv], Rg.sl u8 5 vo out]) _ [Rg.blk b 102 [p, i64 ((a2 : Nat) : Int), i64 (lim : Int), vx, fv]] := ⟨_, hM.pick [0] (by decide)⟩
 refine H.back hS $ H.done (by kernel_rfl) $ X.next $ Kb $ Km rfl $ E.nilc rfl rfl $ E.fld (o := 1) (sz := 0) rfl U102 rfl rfl (by kernel_rfl) rfl $ E.load rfl U3 rfl (hM.bcell 0 rfl rfl) rfl $ Km rfl $ E.mulN (a := 8) (b := x1) rfl rfl (by omega) rfl $ E.addN (a := a2) (b := 8 * x1) rfl rfl (by omega) rfl $ E.nilc rfl rfl $ E.fld (o := 1) (sz := 0) rfl U102 rfl rfl (by kernel_rfl) rfl $ E.storeM 0 hM rfl rfl rfl (by kernel_rfl) rfl rfl ?_
 intro w7 hM
 refine Ke $ Kc rfl $ C.ret $ ret1 rfl rfl ?_
 exact ⟨v77, _, a2 + 8 * x1, 0, rfl, hM, .ok (by rw [hrs, if_neg (by omega), if_neg (by omega), if_neg (by omega)]; unfold cutL; rw [Nat.add_sub_cancel_left]), by rw [List.length_append, hcl]; omega⟩
theorem used_ret (p : Value) (l : List Nat) (w : World) (hr : RdL i64 w p (nz l)) (hlen : l.length ≤ 4096) :
  Ret Tryz.prog 155 #[p] w fun v w' => v = i64 (Df.us l : Int) ∧ Ext w w' := by
 have hM := M.start w
 refine enter Tryz.func155 rfl (by kernel_rfl) Tryz.ntmps155 rfl $ Kb $ Kd rfl $ Kc rfl $ C.seq $ Kb $ Km rfl $ E.lenv rfl (Rd.shape (hM.arg0 hr)) U76 rfl ?_
 rw [nz_len]
 refine Km rfl $ Ka $ C.block $ C.loop1 [(6, _), (7, _)] rfl (fun (i : Nat) => [(3, i64 (Df.us (l.take i) : Int)), (8, i64 i)]) (fun (i : Nat) w' => M w (Nn) w' [] ∧ i ≤ l.length) (fun (i : Nat) => l.length - i) 0 ?_ ?_ ?_
 · exact Sub.cons rfl $ S1 rfl
 · exact ⟨hM, Nat.zero_le _⟩
 rintro i w0 ⟨hM, hi⟩
 refine Kb $ Kp rfl $ Ka $ C.seq $ C.cond' rfl (fun hC0 => ?_) (fun hC0 => ?_)
 ·
  have hi' : i < l.length := by omega
  have hus := Df.us_snoc hi'
  have hul := Df.us_le (l.take i)
  rw [List.length_take] at hul
  have hnl := nz_len l
  refine Kk $ C.cut0 [(6, _), (7, _), (8, _)] rfl [(3, i64 (Df.us (l.take (i + 1)) : Int))] (fun w' => M w (Nn) w' []) ?_ ?_
  ·
   refine C.block $ Kb $ E.get (k := i) rfl rfl (hM.arg0 hr) rfl (by omega) U76 (by kernel_rfl) U3 rfl rfl rfl ?_
   rw [nz_get hi']
   refine Kd rfl $ Km rfl $ Kp rfl $ Ka $ C.cond' rfl (fun hC1 => ?_) (fun hC1 => ?_)
   ·
    refine C.region $ Km rfl $ E.addN (a := Df.us (l.take i)) (b := 1) rfl rfl (by omega) rfl $ Kn rfl $ E.nil $ X.outN $ X.join0  (Sub.cons (look_val rfl (by rw [hus, if_pos (by omega)])) $ Sub.nil _) rfl hM
   refine C.skip $ X.outN $ X.join0  (Sub.cons (look_val rfl (by rw [hus, if_neg (by omega)]; rfl)) $ Sub.nil _) rfl hM
  rintro  w1 hM
  refine C.region $ E.addN (a := i) (b := 1) rfl rfl (by omega) rfl $ Km rfl $ E.nil $ X.again1 (i + 1) (Sub.cons rfl $ S1 rfl) rfl ⟨hM, by omega⟩ (by omega)
 obtain rfl : i = l.length := by omega
 rw [List.take_length]
 refine Kx $ Kb $ Km rfl $ Kc rfl $ C.ret $ ret1 rfl rfl ?_
 exact ⟨rfl, hM.toExt⟩
theorem sum_ret (p : Value) (l : List Nat) (w : World) (hr : RdL i64 w p (nz l)) (hlen : l.length ≤ 4096) (hb : ∀ n ∈ l, n ≤ 15) :
  Ret Tryz.prog 161 #[p] w fun v w' => v = i64 ((l.sum : Nat) : Int) ∧ Ext w w' := by
 have hM := M.start w
 refine enter Tryz.func161 rfl (by kernel_rfl) Tryz.ntmps161 rfl $ Kb $ Kd rfl $ Kc rfl $ C.seq $ Kb $ Km rfl $ E.lenv rfl (Rd.shape (hM.arg0 hr)) U76 rfl ?_
 rw [nz_len]
 refine Km rfl $ Ka $ C.block $ C.loop1 [(6, _), (7, _)] rfl (fun (i : Nat) => [(3, i64 ((l.take i).sum : Int)), (8, i64 i)]) (fun (i : Nat) w' => M w (Nn) w' [] ∧ i ≤ l.length) (fun (i : Nat) => l.length - i) 0 ?_ ?_ ?_
 · exact Sub.cons rfl $ S1 rfl
 · exact ⟨hM, Nat.zero_le _⟩
 rintro i w0 ⟨hM, hi⟩
 refine Kb $ Kp rfl $ Ka $ C.seq $ C.cond' rfl (fun hC0 => ?_) (fun hC0 => ?_)
 ·
  have hi' : i < l.length := by omega
  have hus := Df.sum_snoc hi'
  have hbi := hb _ (List.getElem_mem hi')
  have hul := Df.sum_bd (l.take i) 15 fun n hn => hb n (List.mem_of_mem_take hn)
  rw [List.length_take] at hul
  have hnl := nz_len l
  refine Kk $ C.seq $ C.block $ Kb $ E.get (k := i) rfl rfl (hM.arg0 hr) rfl (by omega) U76 (by kernel_rfl) U3 rfl rfl rfl ?_
  rw [nz_get hi']
  refine Kc rfl $ C.region $ Kf rfl $ E.addN (a := (l.take i).sum) (b := l[i]) rfl rfl (by omega) rfl ?_
  rw [← hus]
  refine Kn rfl $ E.nil $ X.outN $ X.next $ C.region $ E.addN (a := i) (b := 1) rfl rfl (by omega) rfl $ Km rfl $ E.nil $ X.again1 (i + 1) (Sub.cons rfl $ S1 rfl) rfl ⟨hM, by omega⟩ (by omega)
 obtain rfl : i = l.length := by omega
 rw [List.take_length]
 refine Kx $ Kb $ Km rfl $ Kc rfl $ C.ret $ ret1 rfl rfl ?_
 exact ⟨rfl, hM.toExt⟩
theorem acceptable_ret (p : Value) (l : List Nat) (w : World) (hr : RdL i64 w p (nz l)) (hlen : l.length ≤ 4096) (hb : ∀ n ∈ l, n ≤ 15) :
  Ret Tryz.prog 154 #[p] w fun v w' => v = .bool (Df.acc l) ∧ Ext w w' := by
 have hM := M.start w
 refine enter Tryz.func154 rfl (by kernel_rfl) Tryz.ntmps154 rfl $ Kb $ Kc rfl $ C.cut0 [] rfl [(2, .bool (Df.acc l))] (fun w' => M w (Nn) w' []) ?_ ?_
 ·
  refine C.region $ Km rfl $ E.call rfl rfl (Check_ret p _ _ (hM.arg0 hr)) ?_
  rintro _ w1 ⟨rfl, x1⟩
  have hM := hM.ext x1
  refine Kp rfl $ Km rfl $ E.split 6 rfl (fun g6 => ?_) (fun g6 => ?_)
  ·
   try simp only [Ya, Yb, Yc, Yd, Ye, Yf] at g6
   refine Kq rfl $ Kq rfl $ Kq rfl $ Kq rfl $ E.offu rfl rfl rfl $ E.offu rfl rfl rfl $ E.offu rfl rfl rfl $ Kq rfl $ Kr rfl $ Kn rfl $ E.nil $ X.join0  (Sub.cons (look_eq rfl (by rw [Df.acc, decide_eq_true (.inl (by omega))])) $ Sub.nil _) rfl hM
  try simp only [Ya, Yb, Yc, Yd, Ye, Yf] at g6
  refine Ko rfl $ Km rfl $ Ko rfl $ E.call rfl rfl (used_ret p l _ (hM.arg0 hr) hlen) ?_
  rintro _ w2 ⟨rfl, x2⟩
  have hM := hM.ext x2
  refine Ko rfl $ Kp rfl $ Ko rfl $ Km rfl $ E.split 10 rfl (fun g10 => ?_) (fun g10 => ?_)
  ·
   try simp only [Ya, Yb, Yc, Yd, Ye, Yf] at g10
   refine Ko rfl $ Km rfl $ Ko rfl $ E.call rfl rfl (sum_ret p l _ (hM.arg0 hr) hlen hb) ?_
   rintro _ w3 ⟨rfl, x3⟩
   have hM := hM.ext x3
   refine Ko rfl $ Kp rfl $ Ko rfl $ Kr rfl $ Kr rfl $ Kn rfl $ E.nil $ X.join0  (Sub.cons (look_eq rfl (by rw [Df.acc]; exact congrArg _ (decide_eq_decide.2 (by omega)))) $ Sub.nil _) rfl hM
  try simp only [Ya, Yb, Yc, Yd, Ye, Yf] at g10
  refine Kq rfl $ Kq rfl $ Kq rfl $ Ko rfl $ Kr rfl $ Kr rfl $ Kn rfl $ E.nil $ X.join0  (Sub.cons (look_eq rfl (by rw [Df.acc, decide_eq_false (by omega)])) $ Sub.nil _) rfl hM
 rintro  w3 hM
 refine C.ret $ ret1 rfl rfl ?_
 exact ⟨rfl, hM.toExt⟩
end Go.Proofs.YtajklleiifhipaaGreatDoor
namespace Go.Proofs.YtajklleiifhipaaGreatDoor
open Go.RowKit Sym
namespace Sym
def ovr {α : Type} (l : List α) (k : Nat) : List α → List α
 | [] => l
 | c :: cs => ovr (l.set k c) (k + 1) cs
theorem setCells_M {α : Type} {enc : α → Value} {w0 : World} {S : Nat → Prop} {e : TypeId} {v : Value} (i : Nat) : ∀ (cs : List α) (k : Nat) (l : List α) (w : World) (rs : List Rg), M w0 S w rs → rs[i]? = some (Rg.sl enc e v l) → k + cs.length ≤ l.length → M w0 S (w.setCells (bs v).1 ((bs v).2 + k) (cs.map enc)) (rs.set i (Rg.sl enc e v (ovr l k cs)))
 | [], k, l, w, rs, hM, hi, _ => by
  have : rs.set i (Rg.sl enc e v l) = rs := by
   obtain ⟨h, e⟩ := List.getElem?_eq_some_iff.1 hi
   rw [← e]; exact List.set_getElem_self h
  rw [ovr, this]; exact hM
 | c :: cs, k, l, w, rs, hM, hi, hk => by
  rw [List.length_cons] at hk
  have h1 := hM.setL i hi (show k < l.length by omega) c
  have h2 := setCells_M i cs (k + 1) (l.set k c) _ _ h1 (by rw [List.getElem?_set_self (List.getElem?_eq_some_iff.1 hi).1]) (by rw [List.length_set]; omega)
  rw [List.set_set] at h2
  exact h2
theorem Rd.hd {α : Type} {enc : α → Value} {w : World} {v : Value} {l : List α} (h : RdL enc w v l) (h0 : 0 < l.length) : ∃ cap, v = .slice (some (el v 0)) l.length cap := by
 obtain ⟨a, cap, rfl, h2, h3, h4, h5, h6⟩ := h
 obtain ⟨b, o, rfl⟩ := h5 (by rw [h4]; omega)
 exact ⟨cap, rfl⟩
theorem partV_hd {α : Type} {enc : α → Value} {w : World} {v : Value} {l : List α} (h : RdL enc w v l) {k : Nat} (h0 : k < l.length) : ∃ cap, partV v k l.length = .slice (some (el v k)) (l.length - k) cap := by
 obtain ⟨a, cap, rfl, h2, h3, h4, h5, h6⟩ := h
 obtain ⟨b, o, rfl⟩ := h5 (by rw [h4]; omega)
 refine ⟨cap - k, ?_⟩
 unfold partV
 simp only
 rw [if_neg (by omega)]
 simp [el, bs, addr_add]
section
variable {P : Program} {ops : Array Oper} {Q : Exit → Act → World → Prop} {s : St} {env : Env} {w w0 : World} {S : Nat → Prop} {rs : List Rg} {rest : List Oper} {d : Nat} {ty : TypeId} {pos : String} {aft : Array Edge}
theorem E.copyM {α : Type} {enc : α → Value} {t t2 e : TypeId} {x y : Operand} {v dv sv : Value} {l m : List α} (i k : Nat) (hM : M w0 S w rs) (hi : rs[i]? = some (Rg.sl enc e v l)) (hx : ev env x = some dv) (hy : ev env y = some sv) (hdv : ∃ cap, dv = .slice (some (el v k)) (l.length - k) cap) (hR : RdL enc w sv m) (h0 : 0 < m.length) (hk : k ≤ l.length) (ht : P.underlying t = some (.slice e)) (hs : (P.info? e).map (·.size) = some 1) (h1 : ∀ a, (enc a).oneCell' = true) (hd : Nat.blt d s.n = true)
  (h : ∀ w', M w0 S w' (rs.set i (Rg.sl enc e v (ovr l k (m.take (l.length - k))))) → wpE P ops Q s rest ((d, i64 ((min m.length (l.length - k) : Nat) : Int)) :: env) w') : wpE P ops Q s (⟨some d, .call ⟨.builtin .copy, #[x, y], #[t, t2]⟩, ty, pos, aft, none⟩ :: rest) env w := by
 obtain ⟨cap, rfl⟩ := hdv
 have hcl : (m.take (l.length - k)).length = min m.length (l.length - k) := by rw [List.length_take, Nat.min_comm]
 have hml : ((m.take (l.length - k)).map enc).length = Nat.min m.length (l.length - k) := by rw [List.length_map, hcl]
 have hmk : ∀ j, j < ((m.take (l.length - k)).map enc).length → k + j < l.length := fun j hj => by rw [List.length_map, hcl] at hj; omega
 have hr := fun j (hj : j < m.length) => RdL.cell hR hj
 obtain ⟨a, scap, hsv, h2, h3, h4, h5, h6⟩ := hR
 obtain ⟨b, o, rfl⟩ := h5 (by rw [h4]; omega)
 have hM' := setCells_M i (m.take (l.length - k)) k l w rs hM hi
 have hrun := run_copy_cells (P := P) w t t2 ty e (bs v).1 ((bs v).2 + k) (l.length - k) cap ⟨b, o, none⟩ m.length scap ((m.take (l.length - k)).map enc) ht hs hml
   (fun j u hu => by
    rw [List.getElem?_map] at hu
    obtain ⟨z, hz, rfl⟩ := Option.map_eq_some_iff.1 hu
    obtain ⟨hj, hz⟩ := List.getElem?_eq_some_iff.1 hz
    have hj2 : j < m.length := by rw [hcl] at hj; omega
    have := hr j hj2
    rw [hsv] at this
    rw [List.getElem_take] at hz
    rw [hz] at this
    rw [addr_add]; exact this)
   (fun j hj => by
    have hc := ((hM.own i hi).cellAt (hmk j hj)).1
    unfold el at hc
    rw [← Nat.add_assoc] at hc; rw [hc]; rfl)
   (fun j hj => by
    have hc := ((hM.own i hi).cellAt (hmk j hj)).2.1
    unfold el at hc
    rw [← Nat.add_assoc] at hc; exact hc)
   (fun u hu => by obtain ⟨z, _, rfl⟩ := List.mem_map.1 hu; exact h1 z)
 refine E.op (fun a ha => ?_) hd (h _ (hM' (by rw [hcl]; omega)))
 rw [List.length_map, hcl] at hrun
 simp [execOp, resolve, invoke, builtin, ha.ev hx, ha.ev hy, hsv, el]
 rw [hrun, List.map_take]; rfl
end
theorem ovr_rep {α : Type} (x z : α) (n : Nat) : ∀ (j k : Nat), k + j ≤ n → ovr (List.replicate k x ++ List.replicate (n - k) z) k (List.replicate j x) = List.replicate (k + j) x ++ List.replicate (n - (k + j)) z
 | 0, k, _ => rfl
 | j + 1, k, h => by
  have h1 : (List.replicate k x ++ List.replicate (n - k) z).set k x = List.replicate (k + 1) x ++ List.replicate (n - (k + 1)) z := by
   rw [List.set_append_right _ _ (by simp), List.length_replicate, Nat.sub_self, show n - k = (n - (k + 1)) + 1 by omega, List.replicate_succ, List.set_cons_zero, List.replicate_succ', List.append_assoc]; rfl
  rw [List.replicate_succ, ovr, h1, ovr_rep x z n j (k + 1) (by omega), show k + 1 + j = k + (j + 1) by omega]
end Sym
theorem u64_and {n : Nat} (h : n ≤ 4294967295) : bits .and .u64 (n : Int) 4294967295 = (n : Int) := by
 show IntKind.u64.wrap (((BitVec.ofInt 64 (n : Int)) &&& (BitVec.ofInt 64 4294967295)).toNat : Int) = _
 have e : (BitVec.ofInt 64 4294967295).toNat = 4294967295 := rfl
 rw [BitVec.toNat_and, e, Nat.and_two_pow_sub_one_eq_mod _ 32, BitVec.toNat_ofInt]
 have h4 : ((2 ^ 64 : Nat) : Int) = 18446744073709551616 := by decide
 rw [h4]
 have h3 : (((n : Int) % 18446744073709551616).toNat % 4294967296 : Int) = (n : Int) := by omega
 rw [IntWalk.u64_in _ (by omega)]; omega
theorem u64_shr {n : Nat} (h : n ≤ 4294967295) : (n : Int) / 2 ^ min (32 : Int).toNat IntKind.u64.bits = 0 := by
 have e1 : min (32 : Int).toNat IntKind.u64.bits = 32 := rfl
 rw [e1, show (2 : Int) ^ 32 = 4294967296 from rfl]; omega
abbrev LI := List Int
theorem Mul64_ret (n : Nat) (w : World) (hn : n ≤ 4294967295) :
  Ret Tryz.prog 167 #[.int .u64 ((1 : Nat) : Int), .int .u64 ((n : Nat) : Int)] w fun v w' => v = .tuple #[.int .u64 0, .int .u64 ((n : Nat) : Int)] ∧ Ext w w' := by
 have hM := M.start w
 refine enter Tryz.func167 rfl (by kernel_rfl) Tryz.ntmps167 rfl $ Kb $ Kn rfl $ Kd rfl $ Km rfl $ E.binw rfl rfl rfl (congrArg _ (u64_and (n := 1) (by omega))) rfl $ Kd rfl $ Km rfl $ E.shr rfl rfl (by decide) (u64_shr (n := 1) (by omega)) rfl $ Kd rfl $ Km rfl $ E.binw rfl rfl rfl (congrArg _ (u64_and (n := n) (by omega))) rfl $ Kd rfl $ Km rfl $ E.shr rfl rfl (by decide) (u64_shr (n := n) (by omega)) rfl $ Kd rfl $ Kf rfl $ E.binw rfl rfl rfl (congrArg _ (show _ = ((n : Nat) : Int) by first | exact (IntWalk.u64_in _ (by omega)).trans (by omega) | rfl)) rfl $ Kd rfl $ Kf rfl $ E.binw rfl rfl rfl (congrArg _ (show _ = ((0 : Nat) : Int) by first | exact (IntWalk.u64_in _ (by omega)).trans (by omega) | rfl)) rfl $ Km rfl $ E.shr rfl rfl (by decide) (u64_shr (n := n) (by omega)) rfl ?_
 refine E.binw rfl rfl rfl (congrArg _ (show _ = ((0 : Nat) : Int) by first | exact (IntWalk.u64_in _ (by omega)).trans (by omega) | rfl)) rfl $ Kd rfl $ Km rfl $ E.binw rfl rfl rfl (congrArg _ (u64_and (n := 0) (by omega))) rfl $ Kd rfl $ Km rfl $ E.shr rfl rfl (by decide) (u64_shr (n := 0) (by omega)) rfl $ Kd rfl $ Kf rfl $ Km rfl $ E.binw rfl rfl rfl (congrArg _ (show _ = ((0 : Nat) : Int) by first | exact (IntWalk.u64_in _ (by omega)).trans (by omega) | rfl)) rfl $ E.binw rfl rfl rfl (congrArg _ (show _ = ((0 : Nat) : Int) by first | exact (IntWalk.u64_in _ (by omega)).trans (by omega) | rfl)) rfl $ Kd rfl $ Kf rfl $ E.binw rfl rfl rfl (congrArg _ (show _ = ((0 : Nat) : Int) by first | exact (IntWalk.u64_in _ (by omega)).trans (by omega) | rfl)) rfl $ Km rfl $ E.binw rfl rfl rfl (congrArg _ (show _ = ((0 : Nat) : Int) by first | exact (IntWalk.u64_in _ (by omega)).trans (by omega) | rfl)) rfl $ Km rfl $ E.shr rfl rfl (by decide) (u64_shr (n := 0) (by omega)) rfl $ E.binw rfl rfl rfl (congrArg _ (show _ = ((0 : Nat) : Int) by first | exact (IntWalk.u64_in _ (by omega)).trans (by omega) | rfl)) rfl ?_
 refine Kd rfl $ Kf rfl $ E.binw rfl rfl rfl (congrArg _ (show _ = ((n : Nat) : Int) by first | exact (IntWalk.u64_in _ (by omega)).trans (by omega) | rfl)) rfl $ Kc rfl $ C.ret $ ret2 rfl rfl rfl ?_
 exact ⟨rfl, hM.toExt⟩
theorem Mul_ret (n : Nat) (w : World) (hn : n ≤ 4294967295) :
  Ret Tryz.prog 164 #[.int .u64 ((1 : Nat) : Int), .int .u64 ((n : Nat) : Int)] w fun v w' => v = .tuple #[.int .u64 0, .int .u64 ((n : Nat) : Int)] ∧ Ext w w' := by
 have hM := M.start w
 refine enter Tryz.func164 rfl (by kernel_rfl) Tryz.ntmps164 rfl $ Kb $ Kn rfl $ Kc rfl $ C.seq $ C.cond' (p := False) rfl (fun hC0 => ?_) (fun hC0 => ?_)
 ·
  exact hC0.elim
 refine Kk $ Kb $ Kf rfl $ E.call rfl rfl (Mul64_ret n _ hn) ?_
 rintro _ w1 ⟨rfl, x1⟩
 have hM := hM.ext x1
 refine Km rfl $ E.ext rfl rfl rfl $ E.ext rfl rfl rfl $ Kn rfl $ Kd rfl $ Kf rfl $ Kn rfl $ Kc rfl $ C.ret $ ret2 rfl rfl rfl ?_
 exact ⟨rfl, hM.toExt⟩
theorem Repeat_ret (p : Value) (x : Int) (n : Nat) (w : World) (hp : RdL i64 w p [x]) (hn : 1 ≤ n) (hn2 : n ≤ 100000) :
  Ret Tryz.prog 160 #[p, i64 n] w fun v w' => M w Nn w' [Rg.sl i64 3 v (List.replicate n x)] := by
 have hM := M.start w
 refine enter Tryz.func160 rfl (by kernel_rfl) Tryz.ntmps160 rfl $ Kb $ Kc rfl $ C.cut0 [(0, _), (1, _)] rfl [] (fun w' => M w (Nn) w' []) ?_ ?_
 ·
  refine Kb $ Km rfl $ Kp rfl $ Ka $ C.cond' rfl (fun hC0 => ?_) (fun hC0 => ?_)
  ·
   omega
  refine C.skip $ X.join0  (Sub.nil _) rfl hM
 rintro  w0 hM
 refine Kb $ Km rfl $ E.lenv rfl (Rd.shape (hM.arg0 hp)) U76 rfl $ E.conv rfl U3 U64 (show _ = ((1 : Nat) : Int) from rfl) rfl $ Km rfl $ E.conv rfl U3 U64 (IntWalk.u64_in _ (by omega)) rfl $ E.call rfl rfl (Mul_ret n _ (by omega)) ?_
 rintro _ w1 ⟨rfl, x1⟩
 have hM := hM.ext x1
 refine Km rfl $ E.ext rfl rfl rfl $ E.ext rfl rfl rfl $ Kn rfl $ Kc rfl $ C.cut0 [(0, _), (6, _)] rfl [] (fun w' => M w (Nn) w' []) ?_ ?_
 ·
  refine C.chainE [(0, _), (6, _)] rfl [(26, .bool (decide ((0 : Int) > 0 ∨ (n : Int) > 9223372036854775807)))] ?_ ?_
  ·
   refine C.region $ Km rfl $ Kp rfl $ Km rfl $ E.split 23 rfl (fun g23 => ?_) (fun g23 => ?_)
   ·
    try simp only [Ya, Yb, Yc, Yd, Ye, Yf] at g23
    refine Kq rfl $ Kq rfl $ Kr rfl $ E.nil $ X.join0 (Sub.cons (by exact leaf_t (by omega)) $ Sub.nil _) rfl rfl
   try simp only [Ya, Yb, Yc, Yd, Ye, Yf] at g23
   refine Ko rfl $ Km rfl $ Ko rfl $ Kp rfl $ Kr rfl $ E.nil $ X.join0 (Sub.cons (by exact leaf_d (by omega)) $ Sub.nil _) rfl rfl
  refine C.cond' rfl (fun hC1 => ?_) (fun hC1 => ?_)
  ·
   omega
  refine C.skip $ X.join0  (Sub.nil _) rfl hM
 rintro  w2 hM
 refine Kb $ Km rfl $ E.conv rfl U64 U3 (IntWalk.i64_in _ (by omega)) rfl $ E.makeM (by_ := 8) (enc := i64) (0 : Int) hM rfl U76 (by kernel_rfl) rfl (by omega) (by omega) rfl ?_
 intro v30 w3 hM
 refine Kd rfl $ Kf rfl $ E.copyM (l := List.replicate n 0) 0 0 hM rfl rfl rfl (Rd.hd (hM.sl 0 rfl) (by rw [List.length_replicate]; omega)) (hM.arg0 hp) (by simp) (Nat.zero_le _) U76 (by kernel_rfl) (fun _ => rfl) rfl fun w3 hM => ?_
 have hv1 : ovr (List.replicate n 0) 0 (List.take ((List.replicate n (0 : Int)).length - 0) [x]) = List.replicate 1 x ++ List.replicate (n - 1) 0 := by
  rw [List.take_of_length_le (by simp; omega)]; exact ovr_rep x 0 n 1 0 (by omega)
 rw [hv1] at hM
 have hm1 : min [x].length ((List.replicate n (0 : Int)).length - 0) = 1 := by rw [List.length_replicate, List.length_singleton]; omega
 rw [hm1]
 refine Kc rfl $ C.seq $ C.block $ C.loop1 [(7, _)] rfl (fun (k : Nat) => [(8, i64 k)]) (fun (k : Nat) w' => M w (Nn) w' [Rg.sl i64 3 v30 (List.replicate (k) x ++ List.replicate (n - (k)) 0)] ∧ 1 ≤ k ∧ k ≤ n) (fun (k : Nat) => n - k) 1 ?_ ?_ ?_
 · exact S1 rfl
 · exact ⟨hM, Nat.le_refl _, hn⟩
 rintro k w4 ⟨hM, hk1, hk2⟩
 refine C.seq $ Kb $ Kf rfl $ ?_
 have hX : (List.replicate k x ++ List.replicate (n - k) 0).length = n := by simp; omega
 refine E.lenv rfl (Rd.shape (hM.sl 0 rfl)) U76 rfl ?_
 rw [hX]
 refine Kp rfl $ Ka $ C.cond' rfl (fun hC2 => ?_) (fun hC2 => ?_)
 ·
  refine Kk $ C.block $ C.heldX (Sh := fun w' => ∃ (ls : LI), M w (Nn) w' [Rg.sl i64 3 v30 ls] ∧ ls.length = n) hM (by kernel_rfl) fun wh5 hM => ?_
  have hS : ∃ (ls : LI), M w (Nn) wh5 [Rg.sl i64 3 v30 ls] ∧ ls.length = n := ⟨_, hM.pick [0] (by decide), by simp; omega⟩
  refine Kt 0 rfl (by kernel_rfl) hS (fun w' ⟨ls, hM, hX⟩ => Y.mv rfl) rfl $ Kt 1 rfl (by kernel_rfl) hS (fun w' ⟨ls, hM, hX⟩ => Y.mv rfl) rfl $ Kt 2 rfl (by kernel_rfl) hS (fun w' ⟨ls, hM, hX⟩ => Y.mv rfl) rfl $ Ku 3 rfl (by kernel_rfl) hS (Y.slcP (k' := .i64) k n rfl (.inl rfl) (.inr ⟨rfl, hX.symm⟩) (hM.sl 0 rfl) U76 (by kernel_rfl) (by omega) (by omega)) (fun w' ⟨ls, hM, hX⟩ => Y.slcP (k' := .i64) k n rfl (.inl rfl) (.inr ⟨rfl, hX.symm⟩) (hM.sl 0 rfl) U76 (by kernel_rfl) (by omega) (by omega)) rfl $ Kt 4 rfl (by kernel_rfl) hS (fun w' ⟨ls, hM, hX⟩ => Y.mv rfl) rfl $ Kt 5 rfl (by kernel_rfl) hS (fun w' ⟨ls, hM, hX⟩ => Y.mv rfl) rfl $ Ku 6 rfl (by kernel_rfl) hS (Y.slcP (k := .i64) 0 k rfl (.inr ⟨rfl, rfl⟩) (.inl rfl) (hM.sl 0 rfl) U76 (by kernel_rfl) (by omega) (by omega)) (fun w' ⟨ls, hM, hX⟩ => Y.slcP (k := .i64) 0 k rfl (.inr ⟨rfl, rfl⟩) (.inl rfl) (hM.sl 0 rfl) U76 (by kernel_rfl) (by omega) (by omega)) rfl ?_
  have hc := (hM.sl 0 rfl).partV (a := 0) (b := k) (by omega) (by omega)
  rw [show cutL 0 k (List.replicate k x ++ List.replicate (n - k) 0) = List.replicate k x by unfold cutL; rw [List.drop_zero, Nat.sub_zero, List.take_left' (by simp)]] at hc
  have hdv := partV_hd (hM.sl 0 rfl) (k := k) (by omega)
  rw [hX] at hdv
  refine H.only 7 rfl (by kernel_rfl) $ E.copyM (l := (List.replicate k x ++ List.replicate (n - k) 0)) 0 k hM rfl rfl rfl (by rw [hX]; exact hdv) hc (by simp; omega) (by omega) U76 (by kernel_rfl) (fun _ => rfl) rfl fun w6 hM => ?_
  rw [hX, List.length_replicate]
  have hM : M w Nn w6 [Rg.sl i64 3 v30 (List.replicate (k + min k (n - k)) x ++ List.replicate (n - (k + min k (n - k))) 0)] := hM.to (by rw [hX, List.take_replicate, ovr_rep x 0 n _ k (by omega), Nat.min_comm (n - k) k]; rfl)
  have hS : ∃ (ls : LI), M w (Nn) _ [Rg.sl i64 3 v30 ls] ∧ ls.length = n := ⟨_, hM.pick [0] (by decide), by simp; omega⟩
  refine H.back hS $ Kt 8 rfl (by kernel_rfl) hS (fun w' ⟨ls, hM, hX⟩ => Y.addN (a := k) (b := min k (n - k)) rfl rfl (by omega)) rfl $ Kt 9 rfl (by kernel_rfl) hS (fun w' ⟨ls, hM, hX⟩ => Y.asg rfl) rfl $ H.done (by kernel_rfl) $ X.outN $ X.again1 (k + min k (n - k)) (S1 rfl) rfl ⟨hM, by omega, by omega⟩ (by omega)
 obtain rfl : k = n := by omega
 refine Kx $ Kb $ Km rfl $ Kc rfl $ C.ret $ ret1 rfl rfl ?_
 exact hM.to (by rw [Nat.sub_self, List.replicate_zero, List.append_nil])
end Go.Proofs.YtajklleiifhipaaGreatDoor
namespace Go.Proofs.YtajklleiifhipaaGreatDoor
open Go.RowKit Sym
theorem nz_repl (out : List Nat) (k x : Nat) : nz out ++ List.replicate k (x : Int) = nz (out ++ List.replicate k x) := by
 unfold nz; rw [List.map_append, List.map_replicate]
theorem bd_snoc {out : List Nat} {y : Nat} (h : ∀ x ∈ out, x ≤ 15) (hy : y ≤ 15) : ∀ x ∈ out ++ [y], x ≤ 15 := fun x hx => by
 rcases List.mem_append.1 hx with h1 | h1
 · exact h x h1
 rw [List.mem_singleton.1 h1]; exact hy
theorem bd_rep {out : List Nat} {y k : Nat} (h : ∀ x ∈ out, x ≤ 15) (hy : y ≤ 15) : ∀ x ∈ out ++ List.replicate k y, x ≤ 15 := fun x hx => by
 rcases List.mem_append.1 hx with h1 | h1
 · exact h x h1
 rw [(List.mem_replicate.1 h1).2]; exact hy
theorem Df.lsv_le {s : Nat} {out : List Nat} (h : ∀ x ∈ out, x ≤ 15) : Df.lsv s out ≤ 15 := by
  unfold Df.lsv
  split
  · by_cases c : out.length - 1 < out.length
    · rw [List.getD_eq_getElem?_getD, List.getElem?_eq_getElem c]; exact h _ (List.getElem_mem c)
    rw [List.getD_eq_getElem?_getD, List.getElem?_eq_none (by omega)]; exact Nat.zero_le _
  omega
theorem Df.lsl_le (s : Nat) : 3 ≤ Df.lsl s ∧ Df.lsl s ≤ 11 := by unfold Df.lsl; split <;> omega
theorem Df.lsx_le (s : Nat) : Df.lsx s ≤ 7 := by unfold Df.lsx; split; omega; split <;> omega
set_option maxHeartbeats 4000000 in
set_option maxRecDepth 4000 in
theorem slengths_ret (bd n : Nat) (vs : Value) (L : List Nat) (b a0 lim : Nat) (p vo fv : Value) (l : List UInt8) (w : World) (hs : Sep w [Rg.blk b 102 [p, i64 ((a0 : Nat) : Int), i64 (lim : Int), vo, fv], Sym.Ax bd 174 16 (fun n => (Df.cn L n : Int)) [vs, i64 (Df.mx L : Int)], Rg.sl i64 3 vs (nz (Pf.od L))]) (hp : RdL u8 w p l) (ho : Off (fpU [Rg.blk b 102 [p, i64 ((a0 : Nat) : Int), i64 (lim : Int), vo, fv], Sym.Ax bd 174 16 (fun n => (Df.cn L n : Int)) [vs, i64 (Df.mx L : Int)], Rg.sl i64 3 vs (nz (Pf.od L))]) p l) (ha0 : a0 ≤ 8 * l.length) (hl : l.length ≤ 1099511627776) (hc : Df.Code L) (hcL : L.length ≤ 4294967296) (hn : n ≤ 1000) :
  Ret Tryz.prog 153 #[pv b, pv bd, i64 n] w fun v w' => ∃ (vl : Value) (ls : List Nat) (a' : Nat) (e : Int), v = .tuple #[vl, i64 e] ∧ M w (fpU [Rg.blk b 102 [p, i64 ((a0 : Nat) : Int), i64 (lim : Int), vo, fv], Sym.Ax bd 174 16 (fun n => (Df.cn L n : Int)) [vs, i64 (Df.mx L : Int)], Rg.sl i64 3 vs (nz (Pf.od L))]) w' [Rg.blk b 102 [p, i64 ((a' : Nat) : Int), i64 (lim : Int), vo, fv], Sym.Ax bd 174 16 (fun n => (Df.cn L n : Int)) [vs, i64 (Df.mx L : Int)], Rg.sl i64 3 vs (nz (Pf.od L)), Rg.sl i64 3 vl (nz ls)] ∧ Rds (Df.rln L n [] (Df.ub l) a0) ls a' e ∧ (e = 0 → ls.length = n) ∧ (∀ x ∈ ls, x ≤ 15) := by
 have hM := M.startS hs
 refine enter Tryz.func153 rfl (by kernel_rfl) Tryz.ntmps153 rfl $ Kb $ Kn rfl $ Kd rfl $ Kc rfl $ C.seq $ C.block $ ?_
 have hul := Df.ub_len l
 have hM := hM.nil i64 3
 try dsimp only [Za, Zb, Zc, Zd, repl] at hM
 refine C.loop3 [(0, _), (1, _), (2, _)] rfl (fun (a : Nat) (out : (List Nat)) (vl : Value) => [(8, vl)]) (fun (a : Nat) (out : (List Nat)) (vl : Value) w' => M w (fpU [Rg.blk b 102 [p, i64 ((a0 : Nat) : Int), i64 (lim : Int), vo, fv], Sym.Ax bd 174 16 (fun n => (Df.cn L n : Int)) [vs, i64 (Df.mx L : Int)], Rg.sl i64 3 vs (nz (Pf.od L))]) w' [Rg.blk b 102 [p, i64 ((a : Nat) : Int), i64 (lim : Int), vo, fv], Sym.Ax bd 174 16 (fun n => (Df.cn L n : Int)) [vs, i64 (Df.mx L : Int)], Rg.sl i64 3 vs (nz (Pf.od L)), Rg.sl i64 3 vl (nz out)] ∧ Df.rln L n [] (Df.ub l) a0 = Df.rln L n out (Df.ub l) a ∧ a ≤ 8 * l.length ∧ out.length ≤ n ∧ (∀ x ∈ out, x ≤ 15)) (fun (a : Nat) (out : (List Nat)) (vl : Value) => n - out.length) a0 [] (.slice none 0 0) ?_ ?_ ?_
 · exact S1 rfl
 · exact ⟨hM, rfl, ha0, Nat.zero_le _, (by intro x hx; exact absurd hx (by simp))⟩
 rintro a out vl w0 ⟨hM, hrl, ha, hon, hob⟩
 refine C.seq $ Kb $ Km rfl $ E.lenv rfl (Rd.shape (hM.sl 3 rfl)) U76 rfl ?_
 rw [nz_len]
 refine Km rfl $ Kp rfl $ Ka $ C.cond' rfl (fun hC0 => ?_) (fun hC0 => ?_)
 ·
  have hlt : out.length < n := by omega
  rw [Df.rln_on hlt] at hrl
  have hnl := nz_len out
  refine Kk $ C.block $ Kb $ Kf rfl $ E.call rfl rfl (ssym_ret bd vs L b a lim p vo fv l _ (hM.pick [0, 1, 2] (by decide)).sep (hM.arg hp ho) ((hM.pick [0, 1, 2] (by decide)).offS hp ho) (by omega) hl hc hcL) ?_
  rintro _ w1 ⟨x1, a1, e1, rfl, m, hr1⟩
  have hM := hM.calls [0, 1, 2] (by decide) rfl (by simp) m
  try dsimp only [Za, Zb, Zc, Zd, repl] at hM
  try dsimp only [Za, Zb, Zc, Zd, repl] at hM
  refine Km rfl $ E.ext rfl rfl rfl $ E.ext rfl rfl rfl $ Kn rfl $ Kc rfl $ C.seq $ Kb $ Km rfl $ Kp rfl $ Ka $ C.cond' rfl (fun hC1 => ?_) (fun hC1 => ?_)
  ·
   refine Kb $ Km rfl $ Kn rfl $ Kc rfl $ C.ret $ X.retT $ X.retB $ X.retT $ X.retB $ X.retT $ ret2 rfl rfl rfl ?_
   exact ⟨_, [], a1, e1, rfl, (hM.nil i64 3).pick [0, 1, 2, 4] (by decide), .err hC1 (by rw [hrl, Df.bnd_err (hr1.bad hC1)]), fun h => absurd h hC1, (by intro x hx; exact absurd hx (by simp))⟩
  have hq1 := hr1.good hC1
  have hv1 := Df.rsym_adv (by omega) hq1
  rw [Df.bnd_ok hq1] at hrl
  refine Kk $ C.seq $ Kb $ Km rfl $ Kp rfl $ Ka $ C.cond' rfl (fun hC2 => ?_) (fun hC2 => ?_)
  ·
   rw [if_pos (by omega)] at hrl
   refine Kb $ Kf rfl $ E.pushM (enc := i64) 3 (x1 : Int) hM rfl rfl rfl U76 elem_Tint rfl (by omega) (by omega) (by simp) rfl rfl ?_
   intro v33 u33 w2 hM
   try dsimp only [Za, Zb, Zc, Zd, repl] at hM
   refine Kc rfl $ C.exit $ X.exitT $ X.outE $ X.again3 a1 (out ++ [x1]) v33 (S1 rfl) rfl ⟨hM.to (by rw [nz_snoc]), hrl, by omega, by rw [List.length_append, List.length_singleton]; omega, bd_snoc hob (by omega)⟩ (by rw [List.length_append, List.length_singleton]; omega)
  rw [if_neg (by omega)] at hrl
  refine Kk $ C.seq $ C.chainE [(0, _), (1, _), (2, _), (8, _), (9, _)] rfl [(40, .bool (decide (x1 = 16 ∧ out.length = 0)))] ?_ ?_
  ·
   refine C.region $ Km rfl $ Kp rfl $ Km rfl $ E.split 36 rfl (fun g36 => ?_) (fun g36 => ?_)
   ·
    try simp only [Ya, Yb, Yc, Yd, Ye, Yf] at g36
    refine Ko rfl $ Km rfl $ Ko rfl $ E.lenv rfl (Rd.shape (hM.sl 3 rfl)) U76 rfl ?_
    rw [nz_len]
    refine Ko rfl $ Kp rfl $ Kr rfl $ E.nil $ X.join0 (Sub.cons (by exact leaf_d (by omega)) $ Sub.nil _) rfl rfl
   try simp only [Ya, Yb, Yc, Yd, Ye, Yf] at g36
   refine Kq rfl $ Kq rfl $ Kq rfl $ Kr rfl $ E.nil $ X.join0 (Sub.cons (by exact leaf_f (by omega)) $ Sub.nil _) rfl rfl
  refine C.cond' rfl (fun hC3 => ?_) (fun hC3 => ?_)
  ·
   rw [if_pos (by omega)] at hrl
   refine Kb $ Kn rfl $ Kc rfl $ C.ret $ X.retT $ X.retB $ X.retT $ X.retB $ X.retT $ ret2 rfl rfl rfl ?_
   exact ⟨_, [], a1, 9, rfl, (hM.nil i64 3).pick [0, 1, 2, 4] (by decide), .err (by decide) (hrl), fun h => absurd h (by decide), (by intro x hx; exact absurd hx (by simp))⟩
  rw [if_neg (by omega)] at hrl
  obtain ⟨hl3, hl11⟩ := Df.lsl_le x1
  have hx7 := Df.lsx_le x1
  have hv15 := Df.lsv_le (s := x1) hob
  refine Kk $ Kb $ Kn rfl $ Kn rfl $ Kc rfl $ C.cut0 [(0, _), (1, _), (2, _), (8, _)] rfl [(11, i64 (Df.lsv x1 out : Int)), (12, i64 (Df.lsl x1 : Int)), (13, i64 (Df.lsx x1 : Int))] (fun w' => M w (fpU [Rg.blk b 102 [p, i64 ((a0 : Nat) : Int), i64 (lim : Int), vo, fv], Sym.Ax bd 174 16 (fun n => (Df.cn L n : Int)) [vs, i64 (Df.mx L : Int)], Rg.sl i64 3 vs (nz (Pf.od L))]) w' [Rg.blk b 102 [p, i64 ((a1 : Nat) : Int), i64 (lim : Int), vo, fv], Sym.Ax bd 174 16 (fun n => (Df.cn L n : Int)) [vs, i64 (Df.mx L : Int)], Rg.sl i64 3 vs (nz (Pf.od L)), Rg.sl i64 3 vl (nz out)]) ?_ ?_
  ·
   refine Kb $ Km rfl $ Ka $ C.block $ Kb $ Kp rfl $ Kc rfl $ C.cond' rfl (fun hC4 => ?_) (fun hC4 => ?_)
   ·
    have hol : 0 < out.length := by omega
    refine C.region $ Kf rfl $ E.lenv rfl (Rd.shape (hM.sl 3 rfl)) U76 rfl ?_
    rw [nz_len]
    refine E.subN (a := out.length) (b := 1) rfl rfl (by omega) rfl $ E.get (k := out.length - 1) rfl rfl (hM.sl 3 rfl) rfl (by omega) U76 (by kernel_rfl) U3 rfl rfl rfl ?_
    rw [nz_gd]
    refine Kn rfl $ Kn rfl $ E.nil $ X.outN $ X.join0  (Sub.cons (look_val rfl (by rw [Df.lsv, if_pos (by omega)])) $ Sub.cons (look_val rfl (by rw [Df.lsl, if_neg (by omega)]; rfl)) $ Sub.cons (look_val rfl (by rw [Df.lsx, if_pos (by omega)]; rfl)) $ Sub.nil _) rfl hM
   refine Kb $ Kp rfl $ Kc rfl $ C.cond' rfl (fun hC5 => ?_) (fun hC5 => ?_)
   ·
    refine C.region $ Kn rfl $ Kn rfl $ E.nil $ X.outN $ X.join0  (Sub.cons (look_val rfl (by rw [Df.lsv, if_neg (by omega)]; rfl)) $ Sub.cons (look_val rfl (by rw [Df.lsl, if_pos (by omega)]; rfl)) $ Sub.cons (look_val rfl (by rw [Df.lsx, if_neg (by omega), if_pos (by omega)]; rfl)) $ Sub.nil _) rfl hM
   refine C.skip $ X.outN $ X.join0  (Sub.cons (look_val rfl (by rw [Df.lsv, if_neg (by omega)]; rfl)) $ Sub.cons (look_val rfl (by rw [Df.lsl, if_neg (by omega)]; rfl)) $ Sub.cons (look_val rfl (by rw [Df.lsx, if_neg (by omega), if_neg (by omega)]; rfl)) $ Sub.nil _) rfl hM
  rintro  w3 hM
  refine Kb $ Kf rfl $ E.call rfl rfl (sbits_ret (Df.lsx x1) b a1 lim p vo fv l _ (hM.pick [0] (by decide)).sep (hM.arg hp ho) ((hM.pick [0] (by decide)).offS hp ho) (by omega) hl (by omega)) ?_
  rintro _ w2 ⟨x2, a2, e2, rfl, m, hr2⟩
  have hM := hM.calls [0] (by decide) rfl (by simp) m
  try dsimp only [Za, Zb, Zc, Zd, repl] at hM
  try dsimp only [Za, Zb, Zc, Zd, repl] at hM
  refine Km rfl $ E.ext rfl rfl rfl $ E.ext rfl rfl rfl $ Kn rfl $ Kc rfl $ C.seq $ Kb $ Km rfl $ Kp rfl $ Ka $ C.cond' rfl (fun hC6 => ?_) (fun hC6 => ?_)
  ·
   refine Kb $ Km rfl $ Kn rfl $ Kc rfl $ C.ret $ X.retT $ X.retB $ X.retT $ X.retB $ X.retT $ ret2 rfl rfl rfl ?_
   exact ⟨_, [], a2, e2, rfl, (hM.nil i64 3).pick [0, 1, 2, 4] (by decide), .err hC6 (by rw [hrl, Df.bnd_err (hr2.bad hC6)]), fun h => absurd h hC6, (by intro x hx; exact absurd hx (by simp))⟩
  have hq2 := hr2.good hC6
  obtain ⟨hx2, he2, hb2⟩ := rbits_lt hq2
  rw [Df.bnd_ok hq2] at hrl
  have hp7 : 2 ^ Df.lsx x1 ≤ 2 ^ 7 := Nat.pow_le_pow_right (by decide) hx7
  refine Kk $ C.seq $ Kb $ Km rfl $ E.lenv rfl (Rd.shape (hM.sl 3 rfl)) U76 rfl ?_
  rw [nz_len]
  refine Km rfl $ E.addN (a := out.length) (b := Df.lsl x1) rfl rfl (by omega) rfl $ Km rfl $ E.addN (a := out.length + Df.lsl x1) (b := x2) rfl rfl (by omega) rfl $ Km rfl $ Kp rfl $ Ka $ C.cond' rfl (fun hC7 => ?_) (fun hC7 => ?_)
  ·
   rw [if_pos (by omega)] at hrl
   refine Kb $ Kn rfl $ Kc rfl $ C.ret $ X.retT $ X.retB $ X.retT $ X.retB $ X.retT $ ret2 rfl rfl rfl ?_
   exact ⟨_, [], a2, 9, rfl, (hM.nil i64 3).pick [0, 1, 2, 4] (by decide), .err (by decide) (hrl), fun h => absurd h (by decide), (by intro x hx; exact absurd hx (by simp))⟩
  rw [if_neg (by omega)] at hrl
  refine Kk $ C.region $ Kf rfl $ E.mk1M (enc := i64) (Df.lsv x1 out : Int) hM rfl U76 elem_Tint rfl rfl ?_
  intro v71 w5 hM
  try dsimp only [Za, Zb, Zc, Zd, repl] at hM
  refine Kf rfl $ E.addN (a := Df.lsl x1) (b := x2) rfl rfl (by omega) rfl $ E.call rfl rfl (Repeat_ret v71 (Df.lsv x1 out : Int) (Df.lsl x1 + x2) _ (hM.sl 4 rfl) (by omega) (by omega)) ?_
  rintro v75 w9 m
  have hM := hM.call m
  try dsimp only [Za, Zb, Zc, Zd, repl] at hM
  try dsimp only [Za, Zb, Zc, Zd, repl] at hM
  refine E.appendM 3 hM rfl rfl rfl U76 elem_Tint (hM.sl 5 rfl) (fun _ => rfl) (by rw [List.length_replicate]; omega) (by rw [List.length_replicate]; omega) rfl ?_
  intro v76 w7 hM
  try dsimp only [Za, Zb, Zc, Zd, repl] at hM
  rw [nz_repl] at hM
  refine Kn rfl $ E.nil $ X.outN $ X.again3 a2 (out ++ List.replicate (Df.lsl x1 + x2) (Df.lsv x1 out)) v76 (S1 rfl) rfl ⟨hM.pick [0, 1, 2, 3] (by decide), hrl, by omega, by rw [List.length_append, List.length_replicate]; omega, bd_rep hob hv15⟩ (by rw [List.length_append, List.length_replicate]; omega)
 rw [Df.rln_end (out := out) (by omega)] at hrl
 refine Kx $ Kb $ Km rfl $ Kn rfl $ Kc rfl $ C.ret $ ret2 rfl rfl rfl ?_
 exact ⟨_, out, a, 0, rfl, hM, .ok hrl, fun _ => by omega, hob⟩
end Go.Proofs.YtajklleiifhipaaGreatDoor
