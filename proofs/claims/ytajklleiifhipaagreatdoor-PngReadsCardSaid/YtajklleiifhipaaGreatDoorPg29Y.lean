/- the reference's reader: stored data. -/
import Derived.Test.YtajklleiifhipaaGreatDoorY0
import Derived.Test.YtajklleiifhipaaGreatDoorY5
import Derived.Test.YtajklleiifhipaaGreatDoorY18
import Derived.Test.YtajklleiifhipaaGreatDoorPg28Y
set_option linter.unusedSimpArgs false
set_option linter.unusedVariables false
namespace Go.Proofs.YtajklleiifhipaaGreatDoor
open Go.RowKit Sym
theorem xor_all {n c : Nat} (hn : n < 65536) : n ^^^ c = 65535 ↔ (c : Int) = 65535 - (n : Int) := by
  constructor
  · intro h
    have h1 : n ^^^ (n ^^^ c) = n ^^^ (n ^^^ (65535 - n)) := by rw [h, Df.xor_not hn]
    rw [← Nat.xor_assoc, ← Nat.xor_assoc, Nat.xor_self, Nat.zero_xor, Nat.zero_xor] at h1
    omega
  intro h
  rw [show c = 65535 - n by omega]; exact Df.xor_not hn
namespace Df
def sto1 (lim : Nat) (l out : List UInt8) (a x1 a1 a2 : Nat) (e : Int) : Prop := (e ≠ 0 ∧ rsto lim l out (ub l) a = .error e) ∨ (e = 0 ∧ ∃ c, rbits 16 (ub l) ((a + 7) / 8 * 8) = .ok (x1, a1) ∧ rbits 16 (ub l) a1 = .ok (c, a2) ∧ x1 ^^^ c = 65535)
theorem sto1_of {lim : Nat} {l out : List UInt8} {a x1 a1 x2 a2 : Nat} {e1 e2 : Int} (h1 : RS 0 (rbits 16 (ub l) ((a + 7) / 8 * 8)) x1 0 ((a + 7) / 8 * 8) a1 e1) (h2 : RS e1 (rbits 16 (ub l) a1) x2 0 a1 a2 e2) :
    sto1 lim l out a x1 a1 a2 (if (x2 : Int) ≠ 65535 - (x1 : Int) then fst e2 9 else e2) := by
  have hx1 : x1 < 65536 := h1.bits_lt
  by_cases z1 : e1 = 0
  · subst z1
    have k1 := h1.rds.good (by decide)
    by_cases z2 : e2 = 0
    · subst z2
      have k2 := h2.rds.good (by decide)
      by_cases c : (x2 : Int) ≠ 65535 - (x1 : Int)
      · rw [if_pos c, fst_z]
        refine .inl ⟨by decide, ?_⟩
        unfold rsto
        rw [k1]; simp only
        rw [k2]; simp only
        rw [if_pos (fun q => c ((xor_all hx1).1 q))]
      rw [if_neg c]
      exact .inr ⟨rfl, x2, k1, k2, (xor_all hx1).2 (by omega)⟩
    have k2 := h2.rds.bad z2
    rw [fst_nz z2, ite_self]
    refine .inl ⟨z2, ?_⟩
    unfold rsto
    rw [k1]; simp only
    rw [k2]
  have k1 := h1.rds.bad z1
  obtain ⟨k2, _⟩ := h2.bad z1
  rw [k2, fst_nz z1, ite_self]
  refine .inl ⟨z1, ?_⟩
  unfold rsto
  rw [k1]
def sto2 (lim : Nat) (l out : List UInt8) (a x1 a1 a2 : Nat) (e : Int) : Prop := (e ≠ 0 ∧ rsto lim l out (ub l) a = .error e) ∨ (e = 0 ∧ out.length + x1 ≤ lim ∧ ∃ c, rbits 16 (ub l) ((a + 7) / 8 * 8) = .ok (x1, a1) ∧ rbits 16 (ub l) a1 = .ok (c, a2) ∧ x1 ^^^ c = 65535)
theorem sto1.two {lim : Nat} {l out : List UInt8} {a x1 a1 a2 : Nat} {e : Int} (h : sto1 lim l out a x1 a1 a2 e) : sto2 lim l out a x1 a1 a2 (if lim < out.length + x1 then fst e 4 else e) := by
  rcases h with ⟨h1, h2⟩ | ⟨h1, c, h2, h3, h4⟩
  · rw [fst_nz h1, ite_self]; exact .inl ⟨h1, h2⟩
  by_cases z : lim < out.length + x1
  · rw [if_pos z, h1, fst_z]
    refine .inl ⟨by decide, ?_⟩
    unfold rsto
    rw [h2]; simp only
    rw [h3]; simp only
    rw [if_neg (fun q => q h4), if_pos z]
  rw [if_neg z]; exact .inr ⟨h1, by omega, c, h2, h3, h4⟩
def sto3 (lim : Nat) (l out : List UInt8) (a x1 a2 : Nat) (e : Int) : Prop := (e ≠ 0 ∧ rsto lim l out (ub l) a = .error e) ∨ (e = 0 ∧ out.length + x1 ≤ lim ∧ a2 % 8 = 0 ∧ a2 / 8 + x1 ≤ l.length ∧ rsto lim l out (ub l) a = .ok (out ++ (l.drop (a2 / 8)).take x1, a2 + 8 * x1))
theorem sto2.three {lim : Nat} {l out : List UInt8} {a x1 a1 a2 : Nat} {e : Int} (h : sto2 lim l out a x1 a1 a2 e) : sto3 lim l out a x1 a2 (if l.length < a2 / 8 + x1 then fst e 10 else e) := by
  rcases h with ⟨h1, h2⟩ | ⟨h1, h0, c, h2, h3, h4⟩
  · rw [fst_nz h1, ite_self]; exact .inl ⟨h1, h2⟩
  by_cases z : l.length < a2 / 8 + x1
  · rw [if_pos z, h1, fst_z]
    refine .inl ⟨by decide, ?_⟩
    unfold rsto
    rw [h2]; simp only
    rw [h3]; simp only
    rw [if_neg (fun q => q h4), if_neg (by omega), if_pos z]
  rw [if_neg z]
  have e1 := (rbits_lt h2).2.1
  have e2 := (rbits_lt h3).2.1
  refine .inr ⟨h1, h0, by omega, by omega, ?_⟩
  unfold rsto
  rw [h2]; simp only
  rw [h3]; simp only
  rw [if_neg (fun q => q h4), if_neg (by omega), if_neg z]
end Df
theorem RS.byte {l : List UInt8} {e e' : Int} {a x a' : Nat} (h : RS e (Df.rbits 8 (Df.ub l) a) x 0 a a' e') (he : e = 0) (ha : a % 8 = 0) (hl : a / 8 < l.length) : e' = 0 ∧ a' = a + 8 ∧ x = (l[a / 8]).toNat := by
  have hul := Df.ub_len l
  have hr : Df.rbits 8 (Df.ub l) a = .ok (Df.bs (Df.ub l) a 8, a + 8) := by rw [Df.rbits, if_neg (by omega)]
  rcases h with ⟨h, _⟩ | ⟨_, h1, h2⟩ | ⟨_, h1, h2, _⟩
  · exact (h he).elim
  · rw [hr] at h2
    cases h2
    refine ⟨h1, rfl, ?_⟩
    have := Df.bs_byte hl
    rw [show 8 * (a / 8) = a by omega, List.getD_eq_getElem?_getD, List.getElem?_eq_getElem hl] at this
    exact this
  rw [hr] at h2; cases h2
set_option maxHeartbeats 4000000 in
set_option maxRecDepth 4000 in
theorem stored34_ret (out : List UInt8) (b a lim : Nat) (p vo : Value) (l : List UInt8) (w : World) (hs : Sep w [Rg.blk b 107 [p, i64 ((a : Nat) : Int), vo, i64 (lim : Int), i64 0], Rg.sl u8 5 vo out]) (hp : RdL u8 w p l) (ho : Off (fpU [Rg.blk b 107 [p, i64 ((a : Nat) : Int), vo, i64 (lim : Int), i64 0], Rg.sl u8 5 vo out]) p l) (ha : a ≤ 8 * l.length) (hl : l.length ≤ 1099511627776) (hol : out.length ≤ lim) (hlim : lim ≤ 16777216) :
  Ret Tryz.prog 81 #[pv b] w fun v w' => ∃ (vn : Value) (out' : List UInt8) (a' : Nat) (e' : Int), M w (fpU [Rg.blk b 107 [p, i64 ((a : Nat) : Int), vo, i64 (lim : Int), i64 0], Rg.sl u8 5 vo out]) w' [Rg.blk b 107 [p, i64 ((a' : Nat) : Int), vn, i64 (lim : Int), i64 e'], Rg.sl u8 5 vn out'] ∧ Rds (Df.rsto lim l out (Df.ub l) a) out' a' e' ∧ a' ≤ 8 * l.length ∧ out'.length ≤ lim := by
 have hM := M.startS hs
 refine enter Tryz.func81 rfl (by kernel_rfl) Tryz.ntmps81 rfl $ Kb $ Kf rfl $ E.nilc rfl rfl $ E.fld (o := 1) (sz := 0) rfl U107 rfl rfl (by kernel_rfl) rfl ?_
 have hul := Df.ub_len l
 refine E.load rfl U3 rfl (hM.bcell 0 rfl rfl) rfl $ E.addN (a := a) (b := 7) rfl rfl (by omega) rfl $ E.quo rfl rfl (by omega) (quoN (a := a + 7) (b := 8) (by omega) (by omega)) rfl $ E.mulN (a := (a + 7) / 8) (b := 8) rfl rfl (by omega) rfl $ E.nilc rfl rfl $ E.fld (o := 1) (sz := 0) rfl U107 rfl rfl (by kernel_rfl) rfl $ E.storeM 0 hM rfl rfl rfl (by kernel_rfl) rfl rfl ?_
 intro w0 hM
 try dsimp only [Za, Zb, Zc, Zd, repl] at hM
 refine Ke $ Km rfl $ E.call rfl rfl (bits34_ret 16 b ((a + 7) / 8 * 8) lim p vo 0 l _ (hM.pick [0] (by decide)).sep (hM.arg hp ho) ((hM.pick [0] (by decide)).offS hp ho) (by omega) hl (by decide)) ?_
 rintro _ w1 ⟨x1, a1, e1, rfl, m1, hr1, ha1, hb1⟩
 have hM := hM.calls [0] (by decide) rfl (by simp) m1
 try dsimp only [Za, Zb, Zc, Zd, repl] at hM
 have hx1 : x1 < 65536 := hr1.bits_lt
 try dsimp only [Za, Zb, Zc, Zd, repl] at hM
 refine Kc rfl $ C.cut2 [(0, _), (2, _)] rfl (fun (a2 : Nat) (e2 : Int) => []) (fun (a2 : Nat) (e2 : Int) w' => M w (fpU [Rg.blk b 107 [p, i64 ((a : Nat) : Int), vo, i64 (lim : Int), i64 0], Rg.sl u8 5 vo out]) w' [Rg.blk b 107 [p, i64 ((a2 : Nat) : Int), vo, i64 (lim : Int), i64 e2], Rg.sl u8 5 vo out] ∧ Df.sto1 lim l out a x1 a1 a2 e2 ∧ a2 ≤ 8 * l.length) ?_ ?_
 ·
  refine Kb $ Km rfl $ E.call rfl rfl (bits34_ret 16 b a1 lim p vo e1 l _ (hM.pick [0] (by decide)).sep (hM.arg hp ho) ((hM.pick [0] (by decide)).offS hp ho) (by omega) hl (by decide)) ?_
  rintro _ w2 ⟨x2, a2, e2, rfl, m2, hr2, ha2, hb2⟩
  have hM := hM.calls [0] (by decide) rfl (by simp) m2
  try dsimp only [Za, Zb, Zc, Zd, repl] at hM
  try dsimp only [Za, Zb, Zc, Zd, repl] at hM
  refine Km rfl $ E.sub' rfl rfl (by omega) rfl $ Kp rfl $ Ka $ C.cond' rfl (fun hC0 => ?_) (fun hC0 => ?_)
  ·
   have hz := Df.sto1_of (lim := lim) (out := out) hr1 hr2
   rw [if_pos hC0] at hz
   refine C.region $ Km rfl $ E.call rfl rfl (fail34_ret b a2 lim p vo e2 9 _ (hM.pick [0] (by decide)).sep) ?_
   rintro _ w3 m3
   have hM := hM.calls [0] (by decide) rfl (by simp) m3
   try dsimp only [Za, Zb, Zc, Zd, repl] at hM
   try dsimp only [Za, Zb, Zc, Zd, repl] at hM
   refine E.nil $ X.join2 a2 (fst e2 9) (Sub.nil _) rfl ⟨hM, hz, hb2⟩
  have hz := Df.sto1_of (lim := lim) (out := out) hr1 hr2
  rw [if_neg hC0] at hz
  refine C.skip $ X.join2 a2 e2 (Sub.nil _) rfl ⟨hM, hz, hb2⟩
 rintro a2 e2 w4 ⟨hM, hz1, hb2⟩
 refine C.cut1 [(0, _), (2, _)] rfl (fun (e3 : Int) => []) (fun (e3 : Int) w' => M w (fpU [Rg.blk b 107 [p, i64 ((a : Nat) : Int), vo, i64 (lim : Int), i64 0], Rg.sl u8 5 vo out]) w' [Rg.blk b 107 [p, i64 ((a2 : Nat) : Int), vo, i64 (lim : Int), i64 e3], Rg.sl u8 5 vo out] ∧ Df.sto2 lim l out a x1 a1 a2 e3) ?_ ?_
 ·
  refine C.seq $ C.drawn (by kernel_rfl) (by kernel_rfl) $ Q.mv rfl rfl $ Q.nilc rfl rfl $ Q.fld (o := 2) (sz := 0) rfl U107 rfl rfl (by kernel_rfl) rfl $ Q.load rfl U22 rfl (hM.bcell 0 rfl rfl) rfl $ Q.lenv rfl (Rd.shape (hM.sl 1 rfl)) U22 rfl $ Q.mv rfl rfl $ Q.addN (a := out.length) (b := x1) rfl rfl (by omega) rfl $ Q.mv rfl rfl $ Q.nilc rfl rfl $ Q.fld (o := 3) (sz := 0) rfl U107 rfl rfl (by kernel_rfl) rfl $ Q.load rfl U3 rfl (hM.bcell 0 rfl rfl) rfl $ Q.bin rfl rfl rfl rfl $ Q.nil $ fun w5 hx5 => ?_
  have hM := hM.ext hx5
  refine X.next $ C.cond' rfl (fun hC1 => ?_) (fun hC1 => ?_)
  ·
   have hz := hz1.two
   rw [if_pos (by omega)] at hz
   refine C.region $ Km rfl $ E.call rfl rfl (fail34_ret b a2 lim p vo e2 4 _ (hM.pick [0] (by decide)).sep) ?_
   rintro _ w6 m6
   have hM := hM.calls [0] (by decide) rfl (by simp) m6
   try dsimp only [Za, Zb, Zc, Zd, repl] at hM
   try dsimp only [Za, Zb, Zc, Zd, repl] at hM
   refine E.nil $ X.join1 (fst e2 4) (Sub.nil _) rfl ⟨hM, hz⟩
  have hz := hz1.two
  rw [if_neg (by omega)] at hz
  refine C.skip $ X.join1 e2 (Sub.nil _) rfl ⟨hM, hz⟩
 rintro e3 w7 ⟨hM, hz2⟩
 refine C.cut1 [(0, _), (2, _)] rfl (fun (e4 : Int) => []) (fun (e4 : Int) w' => M w (fpU [Rg.blk b 107 [p, i64 ((a : Nat) : Int), vo, i64 (lim : Int), i64 0], Rg.sl u8 5 vo out]) w' [Rg.blk b 107 [p, i64 ((a2 : Nat) : Int), vo, i64 (lim : Int), i64 e4], Rg.sl u8 5 vo out] ∧ Df.sto3 lim l out a x1 a2 e4) ?_ ?_
 ·
  refine C.seq $ C.drawn (by kernel_rfl) (by kernel_rfl) $ Q.mv rfl rfl $ Q.nilc rfl rfl $ Q.fld (o := 1) (sz := 0) rfl U107 rfl rfl (by kernel_rfl) rfl $ Q.load rfl U3 rfl (hM.bcell 0 rfl rfl) rfl $ Q.quo rfl rfl (by omega) (quoN (a := a2) (b := 8) (by omega) (by omega)) rfl $ Q.mv rfl rfl $ Q.addN (a := a2 / 8) (b := x1) rfl rfl (by omega) rfl $ Q.mv rfl rfl $ Q.nilc rfl rfl $ Q.fld (o := 0) (sz := 0) rfl U107 rfl rfl (by kernel_rfl) rfl $ Q.load rfl U22 rfl (hM.bcell 0 rfl rfl) rfl $ Q.lenv rfl (Rd.shape (hM.arg hp ho)) U22 rfl $ Q.bin rfl rfl rfl rfl $ Q.nil $ fun w8 hx8 => ?_
  have hM := hM.ext hx8
  refine X.next $ C.cond' rfl (fun hC2 => ?_) (fun hC2 => ?_)
  ·
   have hz := hz2.three
   rw [if_pos (by omega)] at hz
   refine C.region $ Km rfl $ E.call rfl rfl (fail34_ret b a2 lim p vo e3 10 _ (hM.pick [0] (by decide)).sep) ?_
   rintro _ w9 m9
   have hM := hM.calls [0] (by decide) rfl (by simp) m9
   try dsimp only [Za, Zb, Zc, Zd, repl] at hM
   try dsimp only [Za, Zb, Zc, Zd, repl] at hM
   refine E.nil $ X.join1 (fst e3 10) (Sub.nil _) rfl ⟨hM, hz⟩
  have hz := hz2.three
  rw [if_neg (by omega)] at hz
  refine C.skip $ X.join1 e3 (Sub.nil _) rfl ⟨hM, hz⟩
 rintro e4 w10 ⟨hM, hz3⟩
 refine Kb $ Kc rfl $ C.block $ C.loop2 [(0, _), (2, _)] rfl (fun (i : Nat) (vs : Value) => [(3, i64 i)]) (fun (i : Nat) (vs : Value) w' => M w (fpU [Rg.blk b 107 [p, i64 ((a : Nat) : Int), vo, i64 (lim : Int), i64 0], Rg.sl u8 5 vo out]) w' [Rg.blk b 107 [p, i64 (((a2 + 8 * i) : Nat) : Int), vs, i64 (lim : Int), i64 e4], Rg.sl u8 5 vs (out ++ (l.drop (a2 / 8)).take i)] ∧ i ≤ x1 ∧ (i = 0 ∨ e4 = 0)) (fun (i : Nat) (vs : Value) => x1 - i) 0 vo ?_ ?_ ?_
 · exact S1 rfl
 · exact ⟨hM.to (by rw [List.take_zero, List.append_nil]; rfl), Nat.zero_le _, .inl rfl⟩
 rintro i vs w11 ⟨hM, hi, hz⟩
 refine C.seq $ C.chainE [(0, _), (2, _), (3, _)] rfl [(61, .bool (decide ((i : Int) < x1 ∧ e4 = 0)))] ?_ ?_
 ·
  refine C.region $ Kf rfl $ Kp rfl $ Km rfl $ E.split 55 rfl (fun g55 => ?_) (fun g55 => ?_)
  ·
   try simp only [Ya, Yb, Yc, Yd, Ye, Yf] at g55
   refine Ko rfl $ Km rfl $ Ko rfl $ E.nilc rfl rfl $ Ko rfl $ E.fld (o := 4) (sz := 0) rfl U107 rfl rfl (by kernel_rfl) rfl $ Ko rfl $ E.load rfl U26 rfl (hM.bcell 0 rfl rfl) rfl $ Ko rfl $ Kp rfl $ Kr rfl $ E.nil $ X.join0 (Sub.cons (by exact leaf_d (by omega)) $ Sub.nil _) rfl rfl
  try simp only [Ya, Yb, Yc, Yd, Ye, Yf] at g55
  refine Kq rfl $ Kq rfl $ Kq rfl $ Kq rfl $ Kq rfl $ Kr rfl $ E.nil $ X.join0 (Sub.cons (by exact leaf_f (by omega)) $ Sub.nil _) rfl rfl
 refine C.cond' rfl (fun hC3 => ?_) (fun hC3 => ?_)
 ·
  have hi' : i < x1 := by omega
  have he4 := hC3.2
  obtain ⟨h0, h8, hin, hr⟩ := (hz3.resolve_left (fun q => q.1 he4)).2
  have hdl : ((l.drop (a2 / 8)).take i).length = i := by rw [List.length_take, List.length_drop]; omega
  have hol2 : (out ++ (l.drop (a2 / 8)).take i).length = out.length + i := by rw [List.length_append, hdl]
  have hnl : ¬ lim ≤ (out ++ (l.drop (a2 / 8)).take i).length := by omega
  have hg : (a2 + 8 * i) / 8 < l.length := by omega
  have hst : out ++ (l.drop (a2 / 8)).take (i + 1) = out ++ (l.drop (a2 / 8)).take i ++ [l[(a2 + 8 * i) / 8]'hg] := by
   rw [List.append_assoc, ← List.take_append_getElem (show i < (l.drop (a2 / 8)).length by rw [List.length_drop]; omega), List.getElem_drop]
   congr 4; omega
  refine Kk $ C.seq $ C.block $ C.region $ Kf rfl $ E.call rfl rfl (bits34_ret 8 b (a2 + 8 * i) lim p vs e4 l _ (hM.pick [0] (by decide)).sep (hM.arg hp ho) ((hM.pick [0] (by decide)).offS hp ho) (by omega) hl (by decide)) ?_
  rintro _ w12 ⟨x12, a12, e12, rfl, m12, hr12, ha12, hb12⟩
  have hM := hM.calls [0] (by decide) rfl (by simp) m12
  try dsimp only [Za, Zb, Zc, Zd, repl] at hM
  obtain ⟨he12, ha12, hx12⟩ := hr12.byte he4 (by omega) hg
  subst he12 ha12 hx12
  have hb8 := (l[(a2 + 8 * i) / 8]'hg).toNat_lt
  try dsimp only [Za, Zb, Zc, Zd, repl] at hM
  refine E.conv rfl U3 U5 (IntWalk.u8_in _ (by omega)) rfl $ E.call rfl rfl (put34_ret b (a2 + 8 * i + 8) lim p vs (out ++ (l.drop (a2 / 8)).take i) (l[(a2 + 8 * i) / 8]'hg) _ (hM.pick [0, 1] (by decide)).sep hlim) ?_
  rintro _ w13 ⟨vn, m13⟩
  have hM := hM.calls [0, 1] (by decide) rfl (by simp) m13
  try dsimp only [Za, Zb, Zc, Zd, repl] at hM
  try dsimp only [Za, Zb, Zc, Zd, repl] at hM
  refine E.nil $ X.outN $ X.next $ C.region $ Km rfl $ E.addN (a := i) (b := 1) rfl rfl (by omega) rfl $ Kn rfl $ E.nil $ X.again2 (i + 1) vn (S1 rfl) rfl ⟨hM.to (by rw [hst, he4]; simp only [if_neg hnl]; rfl), by omega, .inr he4⟩ (by omega)
 refine C.exit $ X.exitT $ X.exitT $ X.outE $ end0 rfl ?_
 exact ⟨vs, _, a2 + 8 * i, e4, hM, by
  rcases hz3 with ⟨q1, q2⟩ | ⟨q1, q2, q3, q4, q5⟩
  · exact .err q1 q2
  · rw [q1, show i = x1 by have : ¬ i < x1 := fun q => hC3 ⟨by omega, q1⟩; omega]; exact .ok q5, by
  rcases hz3 with ⟨q1, q2⟩ | ⟨q1, q2, q3, q4, q5⟩
  · rw [hz.resolve_right q1]; omega
  · omega, by
  rw [List.length_append, List.length_take, List.length_drop]
  rcases hz3 with ⟨q1, q2⟩ | ⟨q1, q2, q3, q4, q5⟩
  · rw [hz.resolve_right q1]; omega
  omega⟩
end Go.Proofs.YtajklleiifhipaaGreatDoor
