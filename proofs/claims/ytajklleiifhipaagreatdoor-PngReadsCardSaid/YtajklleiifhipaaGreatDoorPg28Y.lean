/- the reference's reader: matches, stored data. -/
import Derived.Test.YtajklleiifhipaaGreatDoorY0
import Derived.Test.YtajklleiifhipaaGreatDoorY5
import Derived.Test.YtajklleiifhipaaGreatDoorPg27Y
set_option linter.unusedSimpArgs false
set_option linter.unusedVariables false
namespace Go.Proofs.YtajklleiifhipaaGreatDoor
open Go.RowKit Sym
def mev (o d n lim : Nat) : Int := if o < d then 28 else if lim < o + n then 4 else 0
theorem mev_z {o d n lim : Nat} (h : mev o d n lim = 0) : d ≤ o ∧ o + n ≤ lim := by
 unfold mev at h
 split at h
 · cases h
 split at h
 · cases h
 omega
theorem mev_fst (o d n lim : Nat) : mev o d n lim = if lim < o + n then fst (if o < d then 28 else 0) 4 else (if o < d then 28 else 0) := by
 unfold mev fst
 by_cases h1 : o < d <;> by_cases h2 : lim < o + n <;> simp [h1, h2]
set_option maxHeartbeats 2000000 in
set_option maxRecDepth 4000 in
theorem match34_ret (b a lim n d : Nat) (p vo : Value) (out : List UInt8) (w : World) (hs : Sep w [Rg.blk b 107 [p, i64 ((a : Nat) : Int), vo, i64 (lim : Int), i64 0], Rg.sl u8 5 vo out]) (hd : 1 ≤ d ∧ d ≤ 100000) (hn : n ≤ 1000) (hol : out.length ≤ lim) (hlim : lim ≤ 16777216) :
  Ret Tryz.prog 122 #[pv b, i64 n, i64 d] w fun v w' => ∃ (vn : Value) (out' : List UInt8), M w (fpU [Rg.blk b 107 [p, i64 ((a : Nat) : Int), vo, i64 (lim : Int), i64 0], Rg.sl u8 5 vo out]) w' [Rg.blk b 107 [p, i64 ((a : Nat) : Int), vn, i64 (lim : Int), i64 (mev out.length d n lim)], Rg.sl u8 5 vn out'] ∧ out'.length ≤ lim ∧ (mev out.length d n lim = 0 → out' = Df.rp d out n) := by
 have hM := M.startS hs
 refine enter Tryz.func122 rfl (by kernel_rfl) Tryz.ntmps122 rfl $ C.cut0 [(0, _), (1, _), (2, _)] rfl [] (fun w' => M w (fpU [Rg.blk b 107 [p, i64 ((a : Nat) : Int), vo, i64 (lim : Int), i64 0], Rg.sl u8 5 vo out]) w' [Rg.blk b 107 [p, i64 ((a : Nat) : Int), vo, i64 (lim : Int), i64 (if out.length < d then 28 else 0)], Rg.sl u8 5 vo out]) ?_ ?_
 ·
  refine Kb $ Kf rfl $ E.nilc rfl rfl $ E.fld (o := 2) (sz := 0) rfl U107 rfl rfl (by kernel_rfl) rfl $ E.load rfl U22 rfl (hM.bcell 0 rfl rfl) rfl $ E.lenv rfl (Rd.shape (hM.sl 1 rfl)) U22 rfl $ Kp rfl $ Ka $ C.cond' rfl (fun hC0 => ?_) (fun hC0 => ?_)
  ·
   refine C.region $ Km rfl $ E.call rfl rfl (fail34_ret b a lim p vo 0 28 _ (hM.pick [0] (by decide)).sep) ?_
   rintro _ w0 m0
   have hM := hM.calls [0] (by decide) rfl (by simp) m0
   try dsimp only [Za, Zb, Zc, Zd, repl] at hM
   try dsimp only [Za, Zb, Zc, Zd, repl] at hM
   refine E.nil $ X.join0  (Sub.nil _) rfl (hM.to (by rw [fst_z, if_pos (by omega)]))
  refine C.skip $ X.join0  (Sub.nil _) rfl (hM.to (by rw [if_neg (by omega)]))
 rintro  w1 hM
 refine C.cut0 [(0, _), (1, _), (2, _)] rfl [] (fun w' => M w (fpU [Rg.blk b 107 [p, i64 ((a : Nat) : Int), vo, i64 (lim : Int), i64 0], Rg.sl u8 5 vo out]) w' [Rg.blk b 107 [p, i64 ((a : Nat) : Int), vo, i64 (lim : Int), i64 (mev out.length d n lim)], Rg.sl u8 5 vo out]) ?_ ?_
 ·
  refine C.seq $ C.drawn (by kernel_rfl) (by kernel_rfl) $ Q.mv rfl rfl $ Q.nilc rfl rfl $ Q.fld (o := 2) (sz := 0) rfl U107 rfl rfl (by kernel_rfl) rfl $ Q.load rfl U22 rfl (hM.bcell 0 rfl rfl) rfl $ Q.lenv rfl (Rd.shape (hM.sl 1 rfl)) U22 rfl $ Q.mv rfl rfl $ Q.addN (a := out.length) (b := n) rfl rfl (by omega) rfl $ Q.mv rfl rfl $ Q.nilc rfl rfl $ Q.fld (o := 3) (sz := 0) rfl U107 rfl rfl (by kernel_rfl) rfl $ Q.load rfl U3 rfl (hM.bcell 0 rfl rfl) rfl $ Q.bin rfl rfl rfl rfl $ Q.nil $ fun w2 hx2 => ?_
  have hM := hM.ext hx2
  refine X.next $ C.cond' rfl (fun hC1 => ?_) (fun hC1 => ?_)
  ·
   refine C.region $ Km rfl $ E.call rfl rfl (fail34_ret b a lim p vo (if out.length < d then 28 else 0) 4 _ (hM.pick [0] (by decide)).sep) ?_
   rintro _ w3 m3
   have hM := hM.calls [0] (by decide) rfl (by simp) m3
   try dsimp only [Za, Zb, Zc, Zd, repl] at hM
   try dsimp only [Za, Zb, Zc, Zd, repl] at hM
   refine E.nil $ X.join0  (Sub.nil _) rfl (hM.to (by rw [mev_fst, if_pos (show lim < out.length + n by omega)]))
  refine C.skip $ X.join0  (Sub.nil _) rfl (hM.to (by rw [mev_fst, if_neg (show ¬ lim < out.length + n by omega)]))
 rintro  w4 hM
 refine Kb $ Kc rfl $ C.block $ C.loop2 [(0, _), (1, _), (2, _)] rfl (fun (i : Nat) (vs : Value) => [(6, i64 i)]) (fun (i : Nat) (vs : Value) w' => M w (fpU [Rg.blk b 107 [p, i64 ((a : Nat) : Int), vo, i64 (lim : Int), i64 0], Rg.sl u8 5 vo out]) w' [Rg.blk b 107 [p, i64 ((a : Nat) : Int), vs, i64 (lim : Int), i64 (mev out.length d n lim)], Rg.sl u8 5 vs (Df.rp d out i)] ∧ i ≤ n ∧ (i = 0 ∨ mev out.length d n lim = 0)) (fun (i : Nat) (vs : Value) => n - i) 0 vo ?_ ?_ ?_
 · exact S1 rfl
 · exact ⟨hM, Nat.zero_le _, .inl rfl⟩
 rintro i vs w5 ⟨hM, hi, hz⟩
 refine C.seq $ C.chainE [(0, _), (1, _), (2, _), (6, _)] rfl [(39, .bool (decide ((i : Int) < n ∧ mev out.length d n lim = 0)))] ?_ ?_
 ·
  refine C.region $ Kf rfl $ Kp rfl $ Km rfl $ E.split 33 rfl (fun g33 => ?_) (fun g33 => ?_)
  ·
   try simp only [Ya, Yb, Yc, Yd, Ye, Yf] at g33
   refine Ko rfl $ Km rfl $ Ko rfl $ E.nilc rfl rfl $ Ko rfl $ E.fld (o := 4) (sz := 0) rfl U107 rfl rfl (by kernel_rfl) rfl $ Ko rfl $ E.load rfl U26 rfl (hM.bcell 0 rfl rfl) rfl $ Ko rfl $ Kp rfl $ Kr rfl $ E.nil $ X.join0 (Sub.cons (by exact leaf_d (by omega)) $ Sub.nil _) rfl rfl
  try simp only [Ya, Yb, Yc, Yd, Ye, Yf] at g33
  refine Kq rfl $ Kq rfl $ Kq rfl $ Kq rfl $ Kq rfl $ Kr rfl $ E.nil $ X.join0 (Sub.cons (by exact leaf_f (by omega)) $ Sub.nil _) rfl rfl
 refine C.cond' rfl (fun hC2 => ?_) (fun hC2 => ?_)
 ·
  have hi' : i < n := by omega
  have hz' := hC2.2
  obtain ⟨hz1, hz2⟩ := mev_z hz'
  have hrl := Df.rp_len d out i
  have hix : out.length + i - d < (Df.rp d out i).length := by omega
  have hstep : Df.rp d out (i + 1) = Df.rp d out i ++ [(Df.rp d out i)[out.length + i - d]'hix] := by rw [Df.rp, hrl, List.getD_eq_getElem?_getD, List.getElem?_eq_getElem hix]; rfl
  have hnl : ¬ lim ≤ (Df.rp d out i).length := by omega
  rw [hz'] at hM
  refine Kk $ C.seq $ C.block $ C.drawnT 14 (by kernel_rfl) (by kernel_rfl) fun wh6 hwh6 => ?_
  have hM := hM.ext hwh6
  refine S.mv rfl rfl $ S.mv rfl rfl $ S.nilc rfl rfl $ S.fld (o := 2) (sz := 0) rfl U107 rfl rfl (by kernel_rfl) rfl $ S.load rfl U22 rfl (hM.bcell 0 rfl rfl) rfl $ S.mv rfl rfl $ S.nilc rfl rfl $ S.fld (o := 2) (sz := 0) rfl U107 rfl rfl (by kernel_rfl) rfl $ S.load rfl U22 rfl (hM.bcell 0 rfl rfl) rfl $ S.lenv rfl (Rd.shape (hM.sl 1 rfl)) U22 rfl ?_
  rw [hrl]
  refine S.mv rfl rfl $ S.subN (a := out.length + i) (b := d) rfl rfl (by omega) rfl $ S.idx1 (k := out.length + i - d) rfl rfl (hM.sl 1 rfl) rfl hix U22 (by kernel_rfl) rfl $ S.load rfl U5 rfl ((hM.sl 1 rfl).cellA rfl hix) rfl $ S.nil $ E.call rfl rfl (put34_ret b a lim p vs (Df.rp d out i) ((Df.rp d out i)[out.length + i - d]'hix) _ (hM.pick [0, 1] (by decide)).sep hlim) ?_
  rintro _ w6 ⟨vn, m6⟩
  have hM := hM.calls [0, 1] (by decide) rfl (by simp) m6
  try dsimp only [Za, Zb, Zc, Zd, repl] at hM
  try dsimp only [Za, Zb, Zc, Zd, repl] at hM
  refine E.nil $ X.outN $ X.next $ C.region $ Km rfl $ E.addN (a := i) (b := 1) rfl rfl (by omega) rfl $ Kn rfl $ E.nil $ X.again2 (i + 1) vn (S1 rfl) rfl ⟨hM.to (by rw [hstep, hz']; simp only [if_neg hnl]), by omega, .inr hz'⟩ (by omega)
 have hlen : (Df.rp d out i).length ≤ lim := by
  rw [Df.rp_len]
  rcases hz with hz | hz
  · omega
  have := mev_z hz; omega
 refine C.exit $ X.exitT $ X.exitT $ X.outE $ end0 rfl ?_
 exact ⟨vs, _, hM, hlen, fun h => by rw [show i = n by have : ¬ i < n := fun q => hC2 ⟨by omega, h⟩; omega]⟩
end Go.Proofs.YtajklleiifhipaaGreatDoor
