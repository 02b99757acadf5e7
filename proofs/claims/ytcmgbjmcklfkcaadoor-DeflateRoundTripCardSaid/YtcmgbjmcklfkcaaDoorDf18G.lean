/- deflate: matches, tokens and stored data are read. -/
import Derived.Test.YtcmgbjmcklfkcaaDoorDf17G
import Derived.Test.YtcmgbjmcklfkcaaDoorDfJG
import Derived.Test.YtcmgbjmcklfkcaaDoorG31
namespace Go.Proofs.YtcmgbjmcklfkcaaDoor
set_option linter.unusedSimpArgs false
set_option linter.unusedVariables false
open Go.RowKit Sym

theorem Sym.M.offS {α : Type} {enc : α → Value} {w0 w : World} {S : Nat → Prop} {rs : List Rg} {v : Value} {l : List α} (h : M w0 S w rs) (hR : RdL enc w0 v l) (ho : Off S v l) : Off (fpU rs) v l := by
  cases l with
  | nil => exact .inl rfl
  | cons a l =>
    refine .inr fun ⟨i, r, hi, hk⟩ => ?_
    have h1 := hR.lt (by simp)
    rcases h.mine i r hi _ hk with h2 | h2
    · rcases ho with ho | ho
      · cases ho
      · exact ho h2
    · omega
theorem rbits_lt {n : Nat} {B : List Bool} {a x e : Nat} (h : Df.rbits n B a = .ok (x, e)) : x < 2 ^ n ∧ e = a + n ∧ e ≤ B.length := by
  unfold Df.rbits at h
  split at h
  · cases h
  · cases h; exact ⟨Df.bs_lt _ _ _, rfl, by omega⟩
namespace Df
/-- a match is read and carried out -/
noncomputable def rmx (D : List Nat) (s lim : Nat) (B : List Bool) (a : Nat) (out : List UInt8) : Except Int (List UInt8 × Nat) :=
  match rmt D s B a with
  | .error e => .error e
  | .ok ((n, d), a2) => if out.length < d then .error 28 else if lim < out.length + n then .error 4 else .ok (rp d out n, a2)
theorem rmx_err {D : List Nat} {s lim : Nat} {B : List Bool} {a : Nat} {out : List UInt8} {e : Int} (h : rmt D s B a = .error e) : rmx D s lim B a out = .error e := by unfold rmx; rw [h]
theorem rmx_ok {D : List Nat} {s lim : Nat} {B : List Bool} {a a2 n d : Nat} {out : List UInt8} (h : rmt D s B a = .ok ((n, d), a2)) : rmx D s lim B a out = if out.length < d then .error 28 else if lim < out.length + n then .error 4 else .ok (rp d out n, a2) := by unfold rmx; rw [h]
theorem tk_rmx {L D : List Nat} {lim : Nat} {B : List Bool} {a a1 s : Nat} {out : List UInt8} (ha : a ≤ B.length) (h : rsym L B a = .ok (s, a1)) (h2 : 256 < s) (h3 : s ≤ 285) : tk L D lim B a out = match rmx D s lim B a1 out with | .error e => .error e | .ok (o, a2) => tk L D lim B a2 o := by
  cases h4 : rmt D s B a1 with
  | error e => rw [tk_merr h h2 h3 h4, rmx_err h4]
  | ok q =>
    obtain ⟨⟨n, d⟩, a2⟩ := q
    rw [tk_mat ha h h2 h3 h4, rmx_ok h4]
    split
    · rfl
    · split <;> rfl
theorem rmx_adv {D : List Nat} {s lim : Nat} {B : List Bool} {a e : Nat} {out x : List UInt8} (ha : a ≤ B.length) (h : rmx D s lim B a out = .ok (x, e)) : a ≤ e ∧ e ≤ B.length := by
  cases h4 : rmt D s B a with
  | error z => rw [rmx_err h4] at h; cases h
  | ok q =>
    obtain ⟨⟨n, d⟩, a2⟩ := q
    rw [rmx_ok h4] at h
    have := rmt_adv ha h4
    split at h
    · cases h
    · split at h
      · cases h
      · cases h; exact this
end Df
set_option maxHeartbeats 4000000 in
set_option maxRecDepth 4000 in
theorem match_ret (bd s : Nat) (vs : Value) (D : List Nat) (out : List UInt8) (b a lim : Nat) (p vo fv : Value) (l : List UInt8) (w : World) (hs : Sep w [Rg.blk b 74 [p, i64 ((a : Nat) : Int), i64 (lim : Int), vo, fv], Rg.sl u8 5 vo out, Sym.Ax bd 132 16 (fun n => (Df.cn D n : Int)) [vs, i64 (Df.mx D : Int)], Rg.sl i64 3 vs (nz (Pf.od D))]) (hp : RdL u8 w p l) (ho : Off (fpU [Rg.blk b 74 [p, i64 ((a : Nat) : Int), i64 (lim : Int), vo, fv], Rg.sl u8 5 vo out, Sym.Ax bd 132 16 (fun n => (Df.cn D n : Int)) [vs, i64 (Df.mx D : Int)], Rg.sl i64 3 vs (nz (Pf.od D))]) p l) (ha : a ≤ 8 * l.length) (hl : l.length ≤ 1099511627776) (hc : Df.Code D) (hcL : D.length ≤ 4294967296) (h1 : 257 ≤ s) (h2 : s ≤ 285) (hol : out.length ≤ lim) (hlim : lim ≤ 16777216) :
    Ret Tryd.prog 90 #[pv b, i64 s, pv bd] w fun v w' => ∃ (vo' : Value) (out' : List UInt8) (a' : Nat) (e : Int), v = i64 e ∧ M w (fpU [Rg.blk b 74 [p, i64 ((a : Nat) : Int), i64 (lim : Int), vo, fv], Rg.sl u8 5 vo out, Sym.Ax bd 132 16 (fun n => (Df.cn D n : Int)) [vs, i64 (Df.mx D : Int)], Rg.sl i64 3 vs (nz (Pf.od D))]) w' [Rg.blk b 74 [p, i64 ((a' : Nat) : Int), i64 (lim : Int), vo', fv], Rg.sl u8 5 vo' out', Sym.Ax bd 132 16 (fun n => (Df.cn D n : Int)) [vs, i64 (Df.mx D : Int)], Rg.sl i64 3 vs (nz (Pf.od D))] ∧ Rds (Df.rmx D s lim (Df.ub l) a out) out' a' e ∧ out'.length ≤ lim := by
  have hM := M.startS hs
  refine enter Tryd.func90 rfl (by kernel_rfl) Tryd.ntmps90 rfl ?_
  refine C.seq <| C.region <| E.asg rfl rfl <| E.nil <| X.next <| C.seq <| C.region <| E.mv rfl rfl <| ?_
  refine E.call rfl rfl (lengthOf_ret s _ h1 h2) ?_
  rintro _ w1 ⟨rfl, x1⟩
  have hM := hM.ext x1
  try dsimp only [List.nil_append, List.cons_append, List.set_cons_zero, List.set_cons_succ, repl] at hM
  have hul := Df.ub_len l
  have hxb := Df.lx_bd s (by omega)
  refine E.mv rfl rfl <| E.ext rfl rfl rfl <| E.ext rfl rfl rfl <| E.asg rfl rfl <| E.asg rfl rfl <| E.nil <| X.next <| C.seq <| C.region <| E.mv rfl rfl <| E.mv rfl rfl <| ?_
  refine E.call rfl rfl (sbits_ret (Df.lxt s) b a lim p vo fv l _ (hM.pick [0] (by decide)).sep (hM.arg hp ho) ((hM.pick [0] (by decide)).offS hp ho) (by omega) hl (by omega)) ?_
  rintro _ w2 ⟨x2, a2, e2, rfl, m, hr2⟩
  have hM := hM.calls [0] (by decide) rfl (by simp) m
  try dsimp only [List.nil_append, List.cons_append, List.set_cons_zero, List.set_cons_succ, repl] at hM
  try dsimp only [List.nil_append, List.cons_append, List.set_cons_zero, List.set_cons_succ, repl] at hM
  refine E.mv rfl rfl <| E.ext rfl rfl rfl <| E.ext rfl rfl rfl <| E.asg rfl rfl <| E.asg rfl rfl <| E.nil <| X.next <| C.seq <| C.seq <| C.region <| E.mv rfl rfl <| E.bin rfl rfl rfl rfl <| E.nil <| X.next <| ?_
  refine C.cond' rfl (fun hC0 => ?_) (fun hC0 => ?_)
  ·
    refine C.seq <| C.region <| E.mv rfl rfl <| E.asg rfl rfl <| E.nil <| X.next <| C.ret <| X.retT <| ret1 rfl rfl ?_
    exact ⟨vo, out, a2, e2, rfl, hM, .err hC0 (Df.rmx_err (by unfold Df.rmt; rw [Df.bnd_err (hr2.bad hC0)])), hol⟩
  ·
    have hq2 := hr2.good hC0
    obtain ⟨hx2, he2, hb2⟩ := rbits_lt hq2
    have hp5 : 2 ^ Df.lxt s ≤ 2 ^ 5 := Nat.pow_le_pow_right (by decide) (by omega)
    refine C.skip <| X.next <| C.seq <| C.region <| E.mv rfl rfl <| E.mv rfl rfl <| ?_
    refine E.addN (a := Df.lls s) (b := x2) rfl rfl (by omega) rfl ?_
    refine E.asg rfl rfl <| E.nil <| X.next <| C.seq <| C.region <| E.mv rfl rfl <| E.mv rfl rfl <| ?_
    refine E.call rfl rfl (ssym_ret bd vs D b a2 lim p vo fv l _ (hM.pick [0, 2, 3] (by decide)).sep (hM.arg hp ho) ((hM.pick [0, 2, 3] (by decide)).offS hp ho) (by omega) hl hc hcL) ?_
    rintro _ w3 ⟨x3, a3, e3, rfl, m, hr3⟩
    have hM := hM.calls [0, 2, 3] (by decide) rfl (by simp) m
    try dsimp only [List.nil_append, List.cons_append, List.set_cons_zero, List.set_cons_succ, repl] at hM
    try dsimp only [List.nil_append, List.cons_append, List.set_cons_zero, List.set_cons_succ, repl] at hM
    refine E.mv rfl rfl <| E.ext rfl rfl rfl <| E.ext rfl rfl rfl <| E.asg rfl rfl <| E.asg rfl rfl <| E.nil <| X.next <| C.seq <| C.seq <| C.region <| E.mv rfl rfl <| E.bin rfl rfl rfl rfl <| E.nil <| X.next <| ?_
    refine C.cond' rfl (fun hC1 => ?_) (fun hC1 => ?_)
    ·
      refine C.seq <| C.region <| E.mv rfl rfl <| E.asg rfl rfl <| E.nil <| X.next <| C.ret <| X.retT <| ret1 rfl rfl ?_
      exact ⟨vo, out, a3, e3, rfl, hM, .err hC1 (Df.rmx_err (by unfold Df.rmt; rw [Df.bnd_ok hq2, Df.bnd_err (hr3.bad hC1)])), hol⟩
    ·
      have hq3 := hr3.good hC1
      have hv3 := Df.rsym_adv (by omega) hq3
      refine C.skip <| X.next <| C.seq <| C.seq <| C.region <| E.mv rfl rfl <| E.bin rfl rfl rfl rfl <| E.nil <| X.next <| ?_
      refine C.cond' rfl (fun hC2 => ?_) (fun hC2 => ?_)
      ·
        refine C.seq <| C.region <| E.asg rfl rfl <| E.nil <| X.next <| C.ret <| X.retT <| ret1 rfl rfl ?_
        exact ⟨vo, out, a3, 9, rfl, hM, .err (by decide) (Df.rmx_err (by unfold Df.rmt; rw [Df.bnd_ok hq2, Df.bnd_ok hq3, if_pos (by omega)])), hol⟩
      ·
        have hxd := Df.dx_bd x3 (by omega)
        refine C.skip <| X.next <| C.seq <| C.region <| E.mv rfl rfl <| ?_
        refine E.call rfl rfl (distanceOf_ret x3 _ (by omega)) ?_
        rintro _ w4 ⟨rfl, x4⟩
        have hM := hM.ext x4
        try dsimp only [List.nil_append, List.cons_append, List.set_cons_zero, List.set_cons_succ, repl] at hM
        refine E.mv rfl rfl <| E.ext rfl rfl rfl <| E.ext rfl rfl rfl <| E.asg rfl rfl <| E.asg rfl rfl <| E.nil <| X.next <| C.seq <| C.region <| E.mv rfl rfl <| E.mv rfl rfl <| ?_
        refine E.call rfl rfl (sbits_ret (Df.dxt x3) b a3 lim p vo fv l _ (hM.pick [0] (by decide)).sep (hM.arg hp ho) ((hM.pick [0] (by decide)).offS hp ho) (by omega) hl (by omega)) ?_
        rintro _ w5 ⟨x5, a5, e5, rfl, m, hr5⟩
        have hM := hM.calls [0] (by decide) rfl (by simp) m
        try dsimp only [List.nil_append, List.cons_append, List.set_cons_zero, List.set_cons_succ, repl] at hM
        try dsimp only [List.nil_append, List.cons_append, List.set_cons_zero, List.set_cons_succ, repl] at hM
        refine E.mv rfl rfl <| E.ext rfl rfl rfl <| E.ext rfl rfl rfl <| E.asg rfl rfl <| E.asg rfl rfl <| E.nil <| X.next <| C.seq <| C.seq <| C.region <| E.mv rfl rfl <| E.bin rfl rfl rfl rfl <| E.nil <| X.next <| ?_
        refine C.cond' rfl (fun hC3 => ?_) (fun hC3 => ?_)
        ·
          refine C.seq <| C.region <| E.mv rfl rfl <| E.asg rfl rfl <| E.nil <| X.next <| C.ret <| X.retT <| ret1 rfl rfl ?_
          exact ⟨vo, out, a5, e5, rfl, hM, .err hC3 (Df.rmx_err (by unfold Df.rmt; rw [Df.bnd_ok hq2, Df.bnd_ok hq3, if_neg (by omega), Df.bnd_err (hr5.bad hC3)])), hol⟩
        ·
          have hq5 := hr5.good hC3
          obtain ⟨hx5, he5, hb5⟩ := rbits_lt hq5
          have hp13 : 2 ^ Df.dxt x3 ≤ 2 ^ 13 := Nat.pow_le_pow_right (by decide) (by omega)
          have hmt : Df.rmt D s (Df.ub l) a = .ok ((Df.lls s + x2, Df.dls x3 + x5), a5) := by unfold Df.rmt; rw [Df.bnd_ok hq2, Df.bnd_ok hq3, if_neg (by omega), Df.bnd_ok hq5]
          have hrx := Df.rmx_ok (lim := lim) (out := out) hmt
          refine C.skip <| X.next <| C.seq <| C.region <| E.mv rfl rfl <| E.mv rfl rfl <| ?_
          refine E.addN (a := Df.dls x3) (b := x5) rfl rfl (by omega) rfl ?_
          refine E.asg rfl rfl <| E.nil <| X.next <| C.seq <| C.seq <| C.region <| E.mv rfl rfl <| E.mv rfl rfl <| E.nilc rfl rfl <| ?_
          refine E.fld (o := 3) (sz := 0) rfl Tryd.underlying74 rfl rfl (by kernel_rfl) rfl ?_
          refine E.load rfl Tryd.underlying22 rfl (hM.bcell 0 rfl rfl) rfl ?_
          refine E.lenv rfl (Rd.shape (hM.sl 1 rfl)) Tryd.underlying22 rfl ?_
          refine E.bin rfl rfl rfl rfl <| E.nil <| X.next <| ?_
          refine C.cond' rfl (fun hC4 => ?_) (fun hC4 => ?_)
          ·
            refine C.seq <| C.region <| E.asg rfl rfl <| E.nil <| X.next <| C.ret <| X.retT <| ret1 rfl rfl ?_
            exact ⟨vo, out, a5, 28, rfl, hM, .err (by decide) (by rw [hrx, if_pos (by omega)]), hol⟩
          ·
            refine C.skip <| X.next <| C.seq <| C.seq <| C.drawn (by kernel_rfl) (by kernel_rfl) <| Q.mv rfl rfl <| Q.nilc rfl rfl <| ?_
            refine Q.fld (o := 3) (sz := 0) rfl Tryd.underlying74 rfl rfl (by kernel_rfl) rfl ?_
            refine Q.load rfl Tryd.underlying22 rfl (hM.bcell 0 rfl rfl) rfl ?_
            refine Q.lenv rfl (Rd.shape (hM.sl 1 rfl)) Tryd.underlying22 rfl ?_
            refine Q.mv rfl rfl <| ?_
            refine Q.addN (a := out.length) (b := Df.lls s + x2) rfl rfl (by omega) rfl ?_
            refine Q.mv rfl rfl <| Q.nilc rfl rfl <| ?_
            refine Q.fld (o := 2) (sz := 0) rfl Tryd.underlying74 rfl rfl (by kernel_rfl) rfl ?_
            refine Q.load rfl Tryd.underlying3 rfl (hM.bcell 0 rfl rfl) rfl ?_
            refine Q.bin rfl rfl rfl rfl <| Q.nil <| fun w5 hx5 => ?_
            have hM := hM.ext hx5
            refine X.next <| ?_
            refine C.cond' rfl (fun hC5 => ?_) (fun hC5 => ?_)
            ·
              refine C.seq <| C.region <| E.asg rfl rfl <| E.nil <| X.next <| C.ret <| X.retT <| ret1 rfl rfl ?_
              exact ⟨vo, out, a5, 4, rfl, hM, .err (by decide) (by rw [hrx, if_neg (by omega), if_pos (by omega)]), hol⟩
            ·
              refine C.skip <| X.next <| C.seq <| C.region <| E.mv rfl rfl <| E.mv rfl rfl <| E.nilc rfl rfl <| ?_
              refine E.fld (o := 3) (sz := 0) rfl Tryd.underlying74 rfl rfl (by kernel_rfl) rfl ?_
              refine E.load rfl Tryd.underlying22 rfl (hM.bcell 0 rfl rfl) rfl ?_
              refine E.mv rfl rfl <| E.mv rfl rfl <| ?_
              refine E.call rfl rfl (repeat_ret vo out (Df.lls s + x2) (Df.dls x3 + x5) _ (hM.pick [1] (by decide)).sep (by omega) (by omega) (by omega)) ?_
              rintro v84 w6 m
              have hM := hM.calls [1] (by decide) rfl (by simp) m
              try dsimp only [List.nil_append, List.cons_append, List.set_cons_zero, List.set_cons_succ, repl] at hM
              try dsimp only [List.nil_append, List.cons_append, List.set_cons_zero, List.set_cons_succ, repl] at hM
              refine E.nilc rfl rfl <| ?_
              refine E.fld (o := 3) (sz := 0) rfl Tryd.underlying74 rfl rfl (by kernel_rfl) rfl ?_
              refine E.storeM 0 hM rfl rfl rfl (by kernel_rfl) (hM.sl 1 rfl).one rfl ?_
              intro w7 hM
              try dsimp only [List.nil_append, List.cons_append, List.set_cons_zero, List.set_cons_succ, repl] at hM
              refine E.nil <| X.next <| C.seq <| C.region <| E.asg rfl rfl <| E.nil <| X.next <| C.ret <| ret1 rfl rfl ?_
              exact ⟨v84, _, a5, 0, rfl, hM, .ok (by rw [hrx, if_neg (by omega), if_neg (by omega)]), by rw [Df.rp_len]; omega⟩

set_option maxHeartbeats 4000000 in
set_option maxRecDepth 4000 in
theorem stokens_ret (bl bd : Nat) (vl vs : Value) (L D : List Nat) (out0 : List UInt8) (b a0 lim : Nat) (p vo0 fv : Value) (l : List UInt8) (w : World) (hs : Sep w [Rg.blk b 74 [p, i64 ((a0 : Nat) : Int), i64 (lim : Int), vo0, fv], Rg.sl u8 5 vo0 out0, Sym.Ax bl 132 16 (fun n => (Df.cn L n : Int)) [vl, i64 (Df.mx L : Int)], Rg.sl i64 3 vl (nz (Pf.od L)), Sym.Ax bd 132 16 (fun n => (Df.cn D n : Int)) [vs, i64 (Df.mx D : Int)], Rg.sl i64 3 vs (nz (Pf.od D))]) (hp : RdL u8 w p l) (ho : Off (fpU [Rg.blk b 74 [p, i64 ((a0 : Nat) : Int), i64 (lim : Int), vo0, fv], Rg.sl u8 5 vo0 out0, Sym.Ax bl 132 16 (fun n => (Df.cn L n : Int)) [vl, i64 (Df.mx L : Int)], Rg.sl i64 3 vl (nz (Pf.od L)), Sym.Ax bd 132 16 (fun n => (Df.cn D n : Int)) [vs, i64 (Df.mx D : Int)], Rg.sl i64 3 vs (nz (Pf.od D))]) p l) (ha0 : a0 ≤ 8 * l.length) (hl : l.length ≤ 1099511627776) (hcL : Df.Code L) (hcD : Df.Code D) (hLl : L.length ≤ 4294967296) (hDl : D.length ≤ 4294967296) (hol0 : out0.length ≤ lim) (hlim : lim ≤ 16777216) :
    Ret Tryd.prog 66 #[pv b, pv bl, pv bd] w fun v w' => ∃ (vo' : Value) (out' : List UInt8) (a' : Nat) (e : Int), v = i64 e ∧ M w (fpU [Rg.blk b 74 [p, i64 ((a0 : Nat) : Int), i64 (lim : Int), vo0, fv], Rg.sl u8 5 vo0 out0, Sym.Ax bl 132 16 (fun n => (Df.cn L n : Int)) [vl, i64 (Df.mx L : Int)], Rg.sl i64 3 vl (nz (Pf.od L)), Sym.Ax bd 132 16 (fun n => (Df.cn D n : Int)) [vs, i64 (Df.mx D : Int)], Rg.sl i64 3 vs (nz (Pf.od D))]) w' [Rg.blk b 74 [p, i64 ((a' : Nat) : Int), i64 (lim : Int), vo', fv], Rg.sl u8 5 vo' out', Sym.Ax bl 132 16 (fun n => (Df.cn L n : Int)) [vl, i64 (Df.mx L : Int)], Rg.sl i64 3 vl (nz (Pf.od L)), Sym.Ax bd 132 16 (fun n => (Df.cn D n : Int)) [vs, i64 (Df.mx D : Int)], Rg.sl i64 3 vs (nz (Pf.od D))] ∧ Rds (Df.tk L D lim (Df.ub l) a0 out0) out' a' e ∧ out'.length ≤ lim := by
  have hM := M.startS hs
  refine enter Tryd.func66 rfl (by kernel_rfl) Tryd.ntmps66 rfl ?_
  refine C.seq <| C.region <| E.asg rfl rfl <| E.nil <| X.next <| C.block <| ?_
  have hul := Df.ub_len l

  refine C.loop3 [(0, _), (1, _), (2, _)] rfl (fun (a : Nat) (out : (List UInt8)) (vo : Value) => []) (fun (a : Nat) (out : (List UInt8)) (vo : Value) w' => M w (fpU [Rg.blk b 74 [p, i64 ((a0 : Nat) : Int), i64 (lim : Int), vo0, fv], Rg.sl u8 5 vo0 out0, Sym.Ax bl 132 16 (fun n => (Df.cn L n : Int)) [vl, i64 (Df.mx L : Int)], Rg.sl i64 3 vl (nz (Pf.od L)), Sym.Ax bd 132 16 (fun n => (Df.cn D n : Int)) [vs, i64 (Df.mx D : Int)], Rg.sl i64 3 vs (nz (Pf.od D))]) w' [Rg.blk b 74 [p, i64 ((a : Nat) : Int), i64 (lim : Int), vo, fv], Rg.sl u8 5 vo out, Sym.Ax bl 132 16 (fun n => (Df.cn L n : Int)) [vl, i64 (Df.mx L : Int)], Rg.sl i64 3 vl (nz (Pf.od L)), Sym.Ax bd 132 16 (fun n => (Df.cn D n : Int)) [vs, i64 (Df.mx D : Int)], Rg.sl i64 3 vs (nz (Pf.od D))] ∧ Df.tk L D lim (Df.ub l) a0 out0 = Df.tk L D lim (Df.ub l) a out ∧ a ≤ 8 * l.length ∧ out.length ≤ lim) (fun (a : Nat) (out : (List UInt8)) (vo : Value) => 8 * l.length - a) a0 out0 vo0 ?_ ?_ ?_
  · exact Sub.nil _
  · exact ⟨hM, rfl, ha0, hol0⟩
  rintro a out vo w0 ⟨hM, htk, ha, hol⟩
  refine C.block <| C.seq <| C.region <| E.mv rfl rfl <| E.mv rfl rfl <| ?_
  refine E.call rfl rfl (ssym_ret bl vl L b a lim p vo fv l _ (hM.pick [0, 2, 3] (by decide)).sep (hM.arg hp ho) ((hM.pick [0, 2, 3] (by decide)).offS hp ho) (by omega) hl hcL hLl) ?_
  rintro _ w1 ⟨x1, a1, e1, rfl, m, hr1⟩
  have hM := hM.calls [0, 2, 3] (by decide) rfl (by simp) m
  try dsimp only [List.nil_append, List.cons_append, List.set_cons_zero, List.set_cons_succ, repl] at hM
  try dsimp only [List.nil_append, List.cons_append, List.set_cons_zero, List.set_cons_succ, repl] at hM
  refine E.mv rfl rfl <| E.ext rfl rfl rfl <| E.ext rfl rfl rfl <| E.asg rfl rfl <| E.asg rfl rfl <| E.nil <| X.next <| C.seq <| C.block <| C.seq <| C.region <| E.mv rfl rfl <| E.bin rfl rfl rfl rfl <| E.asg rfl rfl <| E.nil <| X.next <| ?_
  refine C.cond' rfl (fun hC0 => ?_) (fun hC0 => ?_)
  ·
    refine C.seq <| C.region <| E.mv rfl rfl <| E.asg rfl rfl <| E.nil <| X.next <| C.ret <| X.retB <| X.retT <| X.retB <| X.retT <| X.retB <| ret1 rfl rfl ?_
    exact ⟨vo, out, a1, e1, rfl, hM, .err hC0 (by rw [htk, Df.tk_err (hr1.bad hC0)]), hol⟩
  ·
    have hq1 := hr1.good hC0
    have hv1 := Df.rsym_adv (by omega) hq1
    refine C.seq <| C.region <| E.mv rfl rfl <| E.bin rfl rfl rfl rfl <| E.asg rfl rfl <| E.nil <| X.next <| ?_
    refine C.cond' rfl (fun hC1 => ?_) (fun hC1 => ?_)
    ·
      obtain rfl : x1 = 256 := by omega
      refine C.seq <| C.region <| E.asg rfl rfl <| E.nil <| X.next <| C.ret <| X.retB <| X.retT <| X.retB <| X.retT <| X.retB <| ret1 rfl rfl ?_
      exact ⟨vo, out, a1, 0, rfl, hM, .ok (by rw [htk, Df.tk_end hq1]), hol⟩
    ·
      refine C.seq <| C.region <| E.mv rfl rfl <| E.bin rfl rfl rfl rfl <| E.asg rfl rfl <| E.nil <| X.next <| ?_
      refine C.cond' rfl (fun hC2 => ?_) (fun hC2 => ?_)
      ·
        refine C.seq <| C.region <| E.asg rfl rfl <| E.nil <| X.next <| C.ret <| X.retB <| X.retT <| X.retB <| X.retT <| X.retB <| ret1 rfl rfl ?_
        exact ⟨vo, out, a1, 9, rfl, hM, .err (by decide) (by rw [htk, Df.tk_bad hq1 (by omega)]), hol⟩
      ·
        refine C.seq <| C.region <| E.mv rfl rfl <| E.bin rfl rfl rfl rfl <| E.asg rfl rfl <| E.nil <| X.next <| ?_
        refine C.cond' rfl (fun hC3 => ?_) (fun hC3 => ?_)
        ·
          have hmx := Df.tk_rmx (D := D) (lim := lim) (out := out) (by omega) hq1 (by omega) (by omega)
          rw [hmx] at htk
          refine C.seq <| C.seq <| C.region <| E.mv rfl rfl <| E.mv rfl rfl <| E.mv rfl rfl <| ?_
          refine E.call rfl rfl (match_ret bd x1 vs D out b a1 lim p vo fv l _ (hM.pick [0, 1, 4, 5] (by decide)).sep (hM.arg hp ho) ((hM.pick [0, 1, 4, 5] (by decide)).offS hp ho) (by omega) hl hcD hDl (by omega) (by omega) hol hlim) ?_
          rintro _ w2 ⟨vo2, out2, a2, e2, rfl, m, hr2, hol2⟩
          have hM := hM.calls [0, 1, 4, 5] (by decide) rfl (by simp) m
          try dsimp only [List.nil_append, List.cons_append, List.set_cons_zero, List.set_cons_succ, repl] at hM
          try dsimp only [List.nil_append, List.cons_append, List.set_cons_zero, List.set_cons_succ, repl] at hM
          refine E.asg rfl rfl <| E.nil <| X.next <| C.seq <| C.region <| E.mv rfl rfl <| E.bin rfl rfl rfl rfl <| E.nil <| X.next <| ?_
          refine C.cond' rfl (fun hC4 => ?_) (fun hC4 => ?_)
          ·
            refine C.seq <| C.region <| E.mv rfl rfl <| E.asg rfl rfl <| E.nil <| X.next <| C.ret <| X.retT <| X.retB <| X.retT <| X.retB <| X.retT <| X.retB <| ret1 rfl rfl ?_
            exact ⟨vo2, out2, a2, e2, rfl, hM, .err hC4 (by rw [htk, hr2.bad hC4]), hol2⟩
          ·
            have hq2 := hr2.good hC4
            rw [hq2] at htk
            have hv2 := Df.rmx_adv (by omega) hq2

            refine C.skip <| X.next <| C.exit <| X.outNe rfl <| X.exitT <| X.outE <| X.again3 a2 out2 vo2 (Sub.nil _) rfl ⟨hM, htk, by omega, hol2⟩ (by omega)
        ·
          have hlt : x1 < 256 := by omega
          rw [Df.tk_lit (by omega) hq1 hlt] at htk
          refine C.skip <| X.outN <| X.next <| C.seq <| C.seq <| C.drawn (by kernel_rfl) (by kernel_rfl) <| Q.mv rfl rfl <| Q.nilc rfl rfl <| ?_
          refine Q.fld (o := 3) (sz := 0) rfl Tryd.underlying74 rfl rfl (by kernel_rfl) rfl ?_
          refine Q.load rfl Tryd.underlying22 rfl (hM.bcell 0 rfl rfl) rfl ?_
          refine Q.lenv rfl (Rd.shape (hM.sl 1 rfl)) Tryd.underlying22 rfl ?_
          refine Q.mv rfl rfl <| Q.nilc rfl rfl <| ?_
          refine Q.fld (o := 2) (sz := 0) rfl Tryd.underlying74 rfl rfl (by kernel_rfl) rfl ?_
          refine Q.load rfl Tryd.underlying3 rfl (hM.bcell 0 rfl rfl) rfl ?_
          refine Q.bin rfl rfl rfl rfl <| Q.nil <| fun w3 hx3 => ?_
          have hM := hM.ext hx3
          refine X.next <| ?_
          refine C.cond' rfl (fun hC5 => ?_) (fun hC5 => ?_)
          ·
            refine C.seq <| C.region <| E.asg rfl rfl <| E.nil <| X.next <| C.ret <| X.retT <| X.retB <| X.retT <| X.retB <| ret1 rfl rfl ?_
            exact ⟨vo, out, a1, 4, rfl, hM, .err (by decide) (by rw [htk, if_pos (by omega)]), hol⟩
          ·
            rw [if_neg (by omega)] at htk
            refine C.skip <| X.next <| C.region <| E.mv rfl rfl <| E.mv rfl rfl <| E.nilc rfl rfl <| ?_
            refine E.fld (o := 3) (sz := 0) rfl Tryd.underlying74 rfl rfl (by kernel_rfl) rfl ?_
            refine E.load rfl Tryd.underlying22 rfl (hM.bcell 0 rfl rfl) rfl ?_
            refine E.mv rfl rfl <| ?_
            refine E.conv rfl Tryd.underlying3 Tryd.underlying5 (IntWalk.u8_in _ (by omega)) rfl ?_
            refine E.pushM (enc := u8) 1 (UInt8.ofNat x1) hM rfl rfl (look_eq rfl (by rw [ofNat_u8 (by omega)])) Tryd.underlying22 elem_Tuint8 rfl (by omega) (by omega) (by simp) rfl rfl ?_
            intro v54 u54 w4 hM
            try dsimp only [List.nil_append, List.cons_append, List.set_cons_zero, List.set_cons_succ, repl] at hM
            refine E.nilc rfl rfl <| ?_
            refine E.fld (o := 3) (sz := 0) rfl Tryd.underlying74 rfl rfl (by kernel_rfl) rfl ?_
            refine E.storeM 0 hM rfl rfl rfl (by kernel_rfl) (hM.sl 1 rfl).one rfl ?_
            intro w5 hM
            try dsimp only [List.nil_append, List.cons_append, List.set_cons_zero, List.set_cons_succ, repl] at hM

            refine E.nil <| X.outN <| X.again3 a1 (out ++ [UInt8.ofNat x1]) v54 (Sub.nil _) rfl ⟨hM, htk, by omega, by rw [List.length_append, List.length_singleton]; omega⟩ (by omega)

end Go.Proofs.YtcmgbjmcklfkcaaDoor
