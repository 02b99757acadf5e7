/- Texts of the claim, laid together: Pg9. -/
import Derived.Test.YtajklleiifhipaaGreatDoorY0
import Derived.Test.YtajklleiifhipaaGreatDoorY5
import Derived.Test.YtajklleiifhipaaGreatDoorY22
set_option linter.unusedSimpArgs false
set_option linter.unusedVariables false
namespace Go.Proofs.YtajklleiifhipaaGreatDoor
open Go.RowKit Sym
open Pg
theorem take_more {α : Type} {a b : List α} {k : Nat} (ha : k < a.length) (hb : k < b.length) (h : a.take k = b.take k) (he : a[k] = b[k]) : a.take (k + 1) = b.take (k + 1) := by
 rw [← List.take_append_getElem ha, ← List.take_append_getElem hb, h, he]
def H13 : List UInt8 := [0, 0, 0, 1, 0, 0, 0, 1, 1, 0, 0, 0, 0]
theorem ex_facts : ∃ P Z, jn [(tH, H13), (tD, Z), (tE, [])] = .ok P ∧ rdf P = .ok [(tH, H13), (tD, Z), (tE, [])] ∧ rdi P = .ok (1, 1, [0]) ∧ wri 1 1 [0] = P ∧ Z.length ≤ 4194304 := by
 obtain ⟨s1, s2, _, _⟩ := dta_small (pix := [0]) (w := 1) (h := 1) rfl (by omega) (by decide) (by omega)
 have hj := wck_jn (pix := [0]) (w := 1) (h := 1) (by omega)
 have hw := wrv_len (pix := [0]) (w := 1) (h := 1) (by omega)
 have hh : hdr 1 1 (dep [0]) = H13 := by decide
 have e : wck 1 1 [0] = [(tH, H13), (tD, Df.wrv (dta [0] 1 (dep [0]) 1) 2), (tE, [])] := by rw [← hh]; rfl
 refine ⟨wri 1 1 [0], Df.wrv (dta [0] 1 (dep [0]) 1) 2, by rw [← e]; exact hj, by rw [← e]; exact rdf_jn hj, rdi_wri rfl (by omega) (by omega) (by decide), rfl, by omega⟩
theorem ex_f1 : apE 1 [5, 7, 4] [] = 0 ∧ apO fil 1 [5, 7, 4] [] = [5, 2, 253] := by decide +kernel
theorem ex_f2 : apE 4 [10, 20] [5, 6] = 0 ∧ apO fil 4 [10, 20] [5, 6] = [5, 10] := by decide +kernel
theorem ex_f3 : apE 4 [5, 10] [5, 6] = 0 ∧ apO unf 4 [5, 10] [5, 6] = [10, 20] := by decide +kernel
theorem rdl_nilS {w : World} : RdL u8 w nilS [] := rdl_nil
theorem EqualImage_ret (W1 H1 : Int) (p1 : Value) (l1 : List UInt8) (W2 H2 : Int) (p2 : Value) (l2 : List UInt8) (w : World) (h1 : RdL u8 w p1 l1) (h2 : RdL u8 w p2 l2) :
  Ret Tryz.prog 10 #[imv W1 H1 p1, imv W2 H2 p2] w fun v w' => v = .bool (decide (W1 = W2 ∧ H1 = H2 ∧ l1 = l2)) ∧ Ext w w' := by
 have hM := M.start w
 refine enter Tryz.func10 rfl (by kernel_rfl) Tryz.ntmps10 rfl $ Kb $ E.boxM hM rfl rfl rfl ?_
 intro b2 w0 hM
 refine E.boxM hM rfl rfl rfl ?_
 intro b3 w1 hM
 refine Kc rfl $ C.seq $ C.chainE [(2, _), (3, _)] rfl [(26, .bool (decide (W1 ≠ W2 ∨ H1 ≠ H2 ∨ l1.length ≠ l2.length)))] ?_ ?_
 ·
  refine C.region $ E.fld (o := 0) (sz := 0) rfl U24 rfl rfl (by kernel_rfl) rfl $ E.load rfl U3 rfl (hM.bcell 0 rfl rfl) rfl $ E.fld (o := 0) (sz := 0) rfl U24 rfl rfl (by kernel_rfl) rfl $ E.load rfl U3 rfl (hM.bcell 1 rfl rfl) rfl $ Kp rfl $ Km rfl $ E.split 11 rfl (fun g11 => ?_) (fun g11 => ?_)
  ·
   try simp only [Ya, Yb, Yc, Yd, Ye, Yf] at g11
   refine Kq rfl $ Kq rfl $ Kq rfl $ Kq rfl $ Kq rfl $ Kr rfl $ Km rfl $ Kq rfl $ Kq rfl $ Kq rfl $ Kq rfl $ Kq rfl $ Kq rfl $ Kq rfl $ Kr rfl $ E.nil $ X.join0 (Sub.cons (look_eq rfl (congrArg Value.bool (by exact (decide_eq_true (p := W1 ≠ W2 ∨ H1 ≠ H2 ∨ l1.length ≠ l2.length) (by omega)).symm))) $ Sub.nil _) rfl rfl
  try simp only [Ya, Yb, Yc, Yd, Ye, Yf] at g11
  refine Ko rfl $ E.fld (o := 1) (sz := 0) rfl U24 rfl rfl (by kernel_rfl) rfl $ Ko rfl $ E.load rfl U3 rfl (hM.bcell 0 rfl rfl) rfl $ Ko rfl $ E.fld (o := 1) (sz := 0) rfl U24 rfl rfl (by kernel_rfl) rfl $ Ko rfl $ E.load rfl U3 rfl (hM.bcell 1 rfl rfl) rfl $ Ko rfl $ Kp rfl $ Kr rfl $ Km rfl $ E.split 18 rfl (fun g18 => ?_) (fun g18 => ?_)
  ·
   try simp only [Ya, Yb, Yc, Yd, Ye, Yf] at g18
   refine Kq rfl $ Kq rfl $ Kq rfl $ Kq rfl $ Kq rfl $ Kq rfl $ Kq rfl $ Kr rfl $ E.nil $ X.join0 (Sub.cons (look_eq rfl (congrArg Value.bool (by exact (decide_eq_true (p := W1 ≠ W2 ∨ H1 ≠ H2 ∨ l1.length ≠ l2.length) (by omega)).symm))) $ Sub.nil _) rfl rfl
  try simp only [Ya, Yb, Yc, Yd, Ye, Yf] at g18
  refine Ko rfl $ E.fld (o := 2) (sz := 0) rfl U24 rfl rfl (by kernel_rfl) rfl $ Ko rfl $ E.load rfl U22 rfl (hM.bcell 0 rfl rfl) rfl $ Ko rfl $ E.lenv rfl (Rd.shape (hM.arg0 h1)) U22 rfl $ Ko rfl $ E.fld (o := 2) (sz := 0) rfl U24 rfl rfl (by kernel_rfl) rfl $ Ko rfl $ E.load rfl U22 rfl (hM.bcell 1 rfl rfl) rfl $ Ko rfl $ E.lenv rfl (Rd.shape (hM.arg0 h2)) U22 rfl $ Ko rfl $ Kp rfl $ Kr rfl $ E.nil $ X.join0 (Sub.cons (look_eq rfl (congrArg Value.bool (by exact decide_eq_decide.2 ⟨fun h => by omega, fun h => by omega⟩))) $ Sub.nil _) rfl rfl
 refine C.cond' rfl (fun hC0 => ?_) (fun hC0 => ?_)
 ·
  refine Kb $ Kc rfl $ C.ret $ X.retT $ ret1 rfl rfl ?_
  exact ⟨congrArg _ (decide_eq_false (p := W1 = W2 ∧ H1 = H2 ∧ l1 = l2) (fun h => by have := congrArg List.length h.2.2; omega)).symm, hM.toExt⟩
 have hle := Rd.le h1
 refine Kk $ C.seq $ Kb $ Kc rfl $ C.block $ C.loop1 [(2, _), (3, _)] rfl (fun (k : Nat) => [(5, i64 k)]) (fun (k : Nat) w' => M w (Nn) w' [Rg.blk b2 24 [i64 W1, i64 H1, p1], Rg.blk b3 24 [i64 W2, i64 H2, p2]] ∧ k ≤ l1.length ∧ l1.take k = l2.take k) (fun (k : Nat) => l1.length - k) 0 ?_ ?_ ?_
 · exact S1 rfl
 · exact ⟨hM, Nat.zero_le _, by simp⟩
 rintro k w2 ⟨hM, hk, ht⟩
 refine C.seq $ Kb $ Km rfl $ E.fld (o := 2) (sz := 0) rfl U24 rfl rfl (by kernel_rfl) rfl $ E.load rfl U22 rfl (hM.bcell 0 rfl rfl) rfl $ E.lenv rfl (Rd.shape (hM.arg0 h1)) U22 rfl $ Kp rfl $ Ka $ C.cond' rfl (fun hC1 => ?_) (fun hC1 => ?_)
 ·
  have hk1 : k < l1.length := by omega
  have hk2 : k < l2.length := by omega
  refine Kk $ C.seq $ C.block $ C.seq $ C.drawn (by kernel_rfl) (by kernel_rfl) $ Q.fld (o := 2) (sz := 0) rfl U24 rfl rfl (by kernel_rfl) rfl $ Q.load rfl U22 rfl (hM.bcell 0 rfl rfl) rfl $ Q.mv rfl rfl $ Q.idx1 (k := k) rfl rfl (hM.arg0 h1) rfl (by omega) U22 (by kernel_rfl) rfl $ Q.load rfl U5 rfl ((hM.arg0 h1).cellA rfl (by omega)) rfl ?_
  rw [u8c]
  refine Q.fld (o := 2) (sz := 0) rfl U24 rfl rfl (by kernel_rfl) rfl $ Q.load rfl U22 rfl (hM.bcell 1 rfl rfl) rfl $ Q.mv rfl rfl $ Q.idx1 (k := k) rfl rfl (hM.arg0 h2) rfl (by omega) U22 (by kernel_rfl) rfl $ Q.load rfl U5 rfl ((hM.arg0 h2).cellA rfl (by omega)) rfl ?_
  rw [u8c]
  refine Q.bin rfl rfl rfl rfl $ Q.nil $ fun w3 hx3 => ?_
  have hM := hM.ext hx3
  refine X.next $ C.cond' rfl (fun hC2 => ?_) (fun hC2 => ?_)
  ·
   refine Kb $ Kc rfl $ C.ret $ X.retB $ X.retT $ X.retT $ X.retB $ X.retT $ ret1 rfl rfl ?_
   exact ⟨congrArg _ (decide_eq_false (p := W1 = W2 ∧ H1 = H2 ∧ l1 = l2) (fun h => by obtain ⟨_, _, rfl⟩ := h; exact hC2 rfl)).symm, hM.toExt⟩
  have heq : l1[k] = l2[k] := UInt8.toNat_inj.1 (by omega)
  refine C.skip $ X.outN $ X.next $ C.region $ Km rfl $ E.add rfl rfl (by omega) rfl $ Kn rfl $ E.nil $ X.again1 (k + 1) (S1 rfl) rfl ⟨hM, by omega, take_more hk1 hk2 ht heq⟩ (by omega)
 obtain rfl : k = l1.length := by omega
 have hll : l1.length = l2.length := by omega
 rw [List.take_length, hll, List.take_length] at ht
 refine Kx $ Kb $ Kc rfl $ C.ret $ ret1 rfl rfl ?_
 exact ⟨congrArg _ (decide_eq_true (p := W1 = W2 ∧ H1 = H2 ∧ l1 = l2) ⟨by omega, by omega, ht⟩).symm, hM.toExt⟩
set_option maxHeartbeats 4000000 in
set_option maxRecDepth 8000 in
theorem example_ret (w : World) (hO : Ord w) :
  Ret Tryz.prog 5 #[] w fun v w' => v = .bool true ∧ Ext w w' := by
 have hM := M.start w
 refine enter Tryz.func5 rfl (by kernel_rfl) Tryz.ntmps5 rfl $ Kb $ Kd rfl $ E.mkM (enc := u8) (e := 5) [5, 7, 4] hM rfl (fun _ => by kernel_rfl) rfl rfl rfl ?_
 intro v17 w0 hM
 try dsimp only [Za, Zb, Zc, Zd, repl] at hM
 refine E.call rfl rfl (Filter_ret 1 v17 nilS [5, 7, 4] [] _ (hM.sl 0 rfl) rdl_nilS (by decide)) ?_
 rintro _ w1 ⟨vo1, rfl, m⟩
 rw [ex_f1.2] at m
 rw [ex_f1.1]
 have hM := hM.call m
 try dsimp only [Za, Zb, Zc, Zd, repl] at hM
 refine Km rfl $ E.ext rfl rfl rfl $ E.ext rfl rfl rfl $ Kn rfl $ Kd rfl $ E.mkM (enc := u8) (e := 5) [10, 20] hM rfl (fun _ => by kernel_rfl) rfl rfl rfl ?_
 intro v22 w2 hM
 try dsimp only [Za, Zb, Zc, Zd, repl] at hM
 refine E.mkM (enc := u8) (e := 5) [5, 6] hM rfl (fun _ => by kernel_rfl) rfl rfl rfl ?_
 intro v23 w3 hM
 try dsimp only [Za, Zb, Zc, Zd, repl] at hM
 refine E.call rfl rfl (Filter_ret 4 v22 v23 [10, 20] [5, 6] _ (hM.sl 2 rfl) (hM.sl 3 rfl) (by decide)) ?_
 rintro _ w2 ⟨vo2, rfl, m⟩
 rw [ex_f2.2] at m
 rw [ex_f2.1]
 have hM := hM.call m
 try dsimp only [Za, Zb, Zc, Zd, repl] at hM
 refine Km rfl $ E.ext rfl rfl rfl $ E.ext rfl rfl rfl $ Kn rfl $ Kd rfl $ E.mkM (enc := u8) (e := 5) [5, 10] hM rfl (fun _ => by kernel_rfl) rfl rfl rfl ?_
 intro v28 w5 hM
 try dsimp only [Za, Zb, Zc, Zd, repl] at hM
 refine E.mkM (enc := u8) (e := 5) [5, 6] hM rfl (fun _ => by kernel_rfl) rfl rfl rfl ?_
 intro v29 w6 hM
 try dsimp only [Za, Zb, Zc, Zd, repl] at hM
 refine E.call rfl rfl (Unfilter_ret 4 v28 v29 [5, 10] [5, 6] _ (hM.sl 5 rfl) (hM.sl 6 rfl) (by decide)) ?_
 rintro _ w3 ⟨vo3, rfl, m⟩
 rw [ex_f3.2] at m
 rw [ex_f3.1]
 have hM := hM.call m
 try dsimp only [Za, Zb, Zc, Zd, repl] at hM
 refine Km rfl $ E.ext rfl rfl rfl $ E.ext rfl rfl rfl $ Kn rfl $ Kc rfl $ C.seq $ C.chainE [] rfl [(57, .bool (decide False))] ?_ ?_
 ·
  refine C.region $ Km rfl $ Kp rfl $ Km rfl $ E.split 35 rfl (fun g35 => ?_) (fun g35 => ?_)
  ·
   try simp only [Ya, Yb, Yc, Yd, Ye, Yf] at g35
   simp at g35
  try simp only [Ya, Yb, Yc, Yd, Ye, Yf] at g35
  refine Ko rfl $ Km rfl $ Ko rfl $ Kp rfl $ Kr rfl $ Km rfl $ E.split 39 rfl (fun g39 => ?_) (fun g39 => ?_)
  ·
   try simp only [Ya, Yb, Yc, Yd, Ye, Yf] at g39
   simp at g39
  try simp only [Ya, Yb, Yc, Yd, Ye, Yf] at g39
  refine Ko rfl $ Km rfl $ Ko rfl $ Kp rfl $ Kr rfl $ Km rfl $ E.split 43 rfl (fun g43 => ?_) (fun g43 => ?_)
  ·
   try simp only [Ya, Yb, Yc, Yd, Ye, Yf] at g43
   simp at g43
  try simp only [Ya, Yb, Yc, Yd, Ye, Yf] at g43
  refine Ko rfl $ Km rfl $ Ko rfl $ E.bstr rfl (hM.sl 1 rfl) U22 U5 U9 rfl $ Ko rfl $ E.nestr (l := [5, 2, 253]) (m := [5, 2, 253]) rfl rfl rfl $ Kr rfl $ Km rfl $ E.split 48 rfl (fun g48 => ?_) (fun g48 => ?_)
  ·
   try simp only [Ya, Yb, Yc, Yd, Ye, Yf] at g48
   simp at g48
  try simp only [Ya, Yb, Yc, Yd, Ye, Yf] at g48
  refine Ko rfl $ Km rfl $ Ko rfl $ E.bstr rfl (hM.sl 4 rfl) U22 U5 U9 rfl $ Ko rfl $ E.nestr (l := [5, 10]) (m := [5, 10]) rfl rfl rfl $ Kr rfl $ Km rfl $ E.split 53 rfl (fun g53 => ?_) (fun g53 => ?_)
  ·
   try simp only [Ya, Yb, Yc, Yd, Ye, Yf] at g53
   simp at g53
  try simp only [Ya, Yb, Yc, Yd, Ye, Yf] at g53
  refine Ko rfl $ Km rfl $ Ko rfl $ E.bstr rfl (hM.sl 7 rfl) U22 U5 U9 rfl $ Ko rfl $ E.nestr (l := [10, 20]) (m := [10, 20]) rfl rfl rfl $ Kr rfl $ E.nil $ X.join0 (Sub.cons (look_eq rfl (congrArg Value.bool (by decide))) $ Sub.nil _) rfl rfl
 refine C.cond' rfl (fun hC0 => ?_) (fun hC0 => ?_)
 ·
  exact hC0.elim
 obtain ⟨P, Z, xj, xr, xi, xw, xz⟩ := ex_facts
 refine Kk $ Kb $ E.mk1M (enc := u8) 0 hM rfl U22 elem_Tuint8 rfl rfl ?_
 intro v58 w8 hM
 try dsimp only [Za, Zb, Zc, Zd, repl] at hM
 obtain ⟨x58, rfl⟩ := own_head (hM.own 8 rfl)
 refine E.buildC (cs := [_, _, _]) [.int .i64 0, .int .i64 0, .slice none 0 0] [0, 1, 2] rfl rfl (by kernel_rfl) rfl $ E.allocM (z := .agg #[.int .i64 0, .int .i64 0, .slice none 0 0]) (cs := [.int .i64 0, .int .i64 0, .slice none 0 0]) hM (by kernel_rfl) rfl rfl ?_
 intro b7 w9 hM
 try dsimp only [Za, Zb, Zc, Zd, repl] at hM
 refine E.storeAM 9 hM rfl rfl rfl (by kernel_rfl) rfl (ones rfl $ ones rfl $ ones rfl $ ones_nil) ?_
 intro w10 hM
 try dsimp only [Za, Zb, Zc, Zd, repl] at hM
 refine Ke $ E.loadA (cs := [i64 1, i64 1, slv x58]) rfl U24 rfl (by kernel_rfl) (hM.bat 9 rfl) rfl $ E.call rfl rfl (Write_ret 1 1 (slv x58) [0] _ (hM.sl 8 rfl) (by decide) (hM.ord0 hO)) ?_
 rintro _ w11 ⟨v62, out, e, rfl, m, hw⟩
 have hM := hM.call m
 obtain ⟨rfl, rfl⟩ : 0 = e ∧ P = out := by
  rcases hw with ⟨_, h1, h2⟩ | ⟨h1, _⟩
  · exact ⟨h1.symm, by rw [h2]; exact xw.symm⟩
  exact (h1 (by decide)).elim
 try dsimp only [Za, Zb, Zc, Zd, repl] at hM
 refine Km rfl $ E.ext rfl rfl rfl $ E.ext rfl rfl rfl $ Kn rfl $ Kd rfl $ Km rfl $ E.call rfl rfl (Chunks_ret v62 P _ (hM.sl 10 rfl)) ?_
 rintro _ w12 ⟨v67, hs, cs, e, rfl, m, hv⟩
 have hM := hM.call m
 obtain ⟨rfl, rfl⟩ : 0 = e ∧ [(tH, H13), (tD, Z), (tE, [])] = cs := by
  rw [xr] at hv
  rcases hv with ⟨h1, h2⟩ | ⟨_, h2, _⟩
  · cases h2; exact ⟨h1.symm, rfl⟩
  cases h2
 try dsimp only [Za, Zb, Zc, Zd, repl] at hM
 refine Km rfl $ E.ext rfl rfl rfl $ E.ext rfl rfl rfl $ Kn rfl $ Kd rfl $ Km rfl $ E.call rfl rfl (Read_ret v62 P _ (hM.sl 10 rfl) (hM.ord0 hO)) ?_
 rintro _ w13 ⟨W, H, vp, pix, e, rfl, m, hv⟩
 have hM := hM.call m
 obtain ⟨rfl, rfl, rfl, rfl⟩ : 0 = e ∧ 1 = W ∧ 1 = H ∧ [0] = pix := by
  rw [xi] at hv
  rcases hv with ⟨a, b, h1, h2, h3, h4⟩ | ⟨_, h2, _⟩
  · cases h4; exact ⟨h1.symm, h2.symm, h3.symm, rfl⟩
  cases h2
 try dsimp only [Za, Zb, Zc, Zd, repl] at hM
 refine Km rfl $ E.ext rfl rfl rfl $ E.ext rfl rfl rfl $ E.allocM (z := .agg #[.int .i64 0, .int .i64 0, .slice none 0 0]) (cs := [.int .i64 0, .int .i64 0, .slice none 0 0]) hM (by kernel_rfl) rfl rfl ?_
 intro b12 w14 hM
 try dsimp only [Za, Zb, Zc, Zd, repl] at hM
 refine E.storeAM 14 (cs := [i64 1, i64 1, vp]) hM rfl rfl rfl (by kernel_rfl) rfl (ones rfl $ ones rfl $ ones (hM.sl 13 rfl).one $ ones_nil) ?_
 intro w15 hM
 try dsimp only [Za, Zb, Zc, Zd, repl] at hM
 refine Kc rfl $ C.seq $ C.chainE [(7, _), (8, _), (10, _), (12, _)] rfl [(110, .bool (decide False))] ?_ ?_
 ·
  refine C.region $ Km rfl $ Kp rfl $ Km rfl $ E.split 77 rfl (fun g77 => ?_) (fun g77 => ?_)
  ·
   try simp only [Ya, Yb, Yc, Yd, Ye, Yf] at g77
   simp at g77
  try simp only [Ya, Yb, Yc, Yd, Ye, Yf] at g77
  refine Ko rfl $ Km rfl $ Ko rfl $ Kp rfl $ Kr rfl $ Km rfl $ E.split 81 rfl (fun g81 => ?_) (fun g81 => ?_)
  ·
   try simp only [Ya, Yb, Yc, Yd, Ye, Yf] at g81
   simp at g81
  try simp only [Ya, Yb, Yc, Yd, Ye, Yf] at g81
  refine Ko rfl $ Km rfl $ Ko rfl $ Kp rfl $ Kr rfl $ Km rfl $ E.split 85 rfl (fun g85 => ?_) (fun g85 => ?_)
  ·
   try simp only [Ya, Yb, Yc, Yd, Ye, Yf] at g85
   simp at g85
  try simp only [Ya, Yb, Yc, Yd, Ye, Yf] at g85
  refine Ko rfl $ Km rfl $ Ko rfl $ E.lenv rfl (hM.cks 11 12 rfl rfl).shape U35 rfl $ Ko rfl $ Kp rfl $ Kr rfl $ Km rfl $ E.split 90 rfl (fun g90 => ?_) (fun g90 => ?_)
  ·
   try simp only [Ya, Yb, Yc, Yd, Ye, Yf] at g90
   simp at g90
  try simp only [Ya, Yb, Yc, Yd, Ye, Yf] at g90
  refine Ko rfl $ Km rfl $ Ko rfl $ E.idxF (k := 0) rfl rfl (hM.cks 11 12 rfl rfl).row rfl (by rw [zc_len (hM.cks 11 12 rfl rfl).len]; simp) (by decide) U35 (by kernel_rfl) rfl $ Ko rfl $ E.fld (o := 0) (sz := 0) rfl U39 rfl rfl (by kernel_rfl) rfl $ Ko rfl $ E.load rfl U9 rfl ((hM.cks 11 12 rfl rfl).at (i := 0) (by simp) 0 _ rfl) rfl $ Ko rfl $ E.nestr (l := tH) (m := tH) rfl rfl rfl $ Kr rfl $ Km rfl $ E.split 97 rfl (fun g97 => ?_) (fun g97 => ?_)
  ·
   try simp only [Ya, Yb, Yc, Yd, Ye, Yf] at g97
   simp at g97
  try simp only [Ya, Yb, Yc, Yd, Ye, Yf] at g97
  refine Ko rfl $ Km rfl $ Ko rfl $ E.idxF (k := 1) rfl rfl (hM.cks 11 12 rfl rfl).row rfl (by rw [zc_len (hM.cks 11 12 rfl rfl).len]; simp) (by decide) U35 (by kernel_rfl) rfl $ Ko rfl $ E.fld (o := 0) (sz := 0) rfl U39 rfl rfl (by kernel_rfl) rfl $ Ko rfl $ E.load rfl U9 rfl ((hM.cks 11 12 rfl rfl).at (i := 1) (by simp) 0 _ rfl) rfl $ Ko rfl $ E.nestr (l := tD) (m := tD) rfl rfl rfl $ Kr rfl $ Km rfl $ E.split 104 rfl (fun g104 => ?_) (fun g104 => ?_)
  ·
   try simp only [Ya, Yb, Yc, Yd, Ye, Yf] at g104
   simp at g104
  try simp only [Ya, Yb, Yc, Yd, Ye, Yf] at g104
  refine Ko rfl $ Km rfl $ Ko rfl $ E.idxF (k := 2) rfl rfl (hM.cks 11 12 rfl rfl).row rfl (by rw [zc_len (hM.cks 11 12 rfl rfl).len]; simp) (by decide) U35 (by kernel_rfl) rfl $ Ko rfl $ E.fld (o := 0) (sz := 0) rfl U39 rfl rfl (by kernel_rfl) rfl $ Ko rfl $ E.load rfl U9 rfl ((hM.cks 11 12 rfl rfl).at (i := 2) (by simp) 0 _ rfl) rfl $ Ko rfl $ E.nestr (l := tE) (m := tE) rfl rfl rfl $ Kr rfl $ E.nil $ X.join0 (Sub.cons (look_eq rfl (congrArg Value.bool (by decide))) $ Sub.nil _) rfl rfl
 refine C.cond' rfl (fun hC1 => ?_) (fun hC1 => ?_)
 ·
  exact hC1.elim
 refine Kk $ Kb $ Km rfl $ ?_
 have hbb : ∀ c ∈ [(tH, H13), (tD, Z), (tE, ([] : List UInt8))], c.1.length ≤ 1000000 ∧ c.2.length ≤ 4194304 := fun c hc => by
  have : c = (tH, H13) ∨ c = (tD, Z) ∨ c = (tE, []) := by simpa using hc
  rcases this with rfl | rfl | rfl
  · exact ⟨by decide, by decide⟩
  · exact ⟨by simp [tD], xz⟩
  exact ⟨by decide, by decide⟩
 refine E.call rfl rfl (Join_ret v67 hs [(tH, H13), (tD, Z), (tE, [])] _ (hM.cks 11 12 rfl rfl) hbb) ?_
 rintro _ w16 ⟨v113, out, e, rfl, m, hj⟩
 have hM := hM.call m
 obtain ⟨rfl, rfl⟩ : 0 = e ∧ P = out := by
  rw [xj] at hj
  rcases hj with ⟨h1, h2⟩ | ⟨_, h2, _⟩
  · cases h2; exact ⟨h1.symm, rfl⟩
  cases h2
 try dsimp only [Za, Zb, Zc, Zd, repl] at hM
 refine Km rfl $ E.ext rfl rfl rfl $ E.ext rfl rfl rfl $ Kn rfl $ Kc rfl $ C.cut0 [] rfl [(0, .bool true)] (fun w' => M w (Nn) w' []) ?_ ?_
 ·
  refine C.region $ Km rfl $ E.idxF (k := 0) rfl rfl (hM.cks 11 12 rfl rfl).row rfl (by rw [zc_len (hM.cks 11 12 rfl rfl).len]; simp) (by decide) U35 (by kernel_rfl) rfl $ E.fld (o := 1) (sz := 0) rfl U39 rfl rfl (by kernel_rfl) rfl $ E.load rfl U22 rfl ((hM.cks 11 12 rfl rfl).at (i := 0) (by simp) 1 _ rfl) rfl $ E.bstr rfl ((hM.cks 11 12 rfl rfl).data (i := 0) (by simp)) U22 U5 U9 rfl $ E.eqstr (l := H13) (m := H13) rfl rfl rfl $ Km rfl $ E.split 122 rfl (fun g122 => ?_) (fun g122 => ?_)
  ·
   try simp only [Ya, Yb, Yc, Yd, Ye, Yf] at g122
   refine Ko rfl $ Km rfl $ Ko rfl $ Kp rfl $ Kr rfl $ Km rfl $ E.split 126 rfl (fun g126 => ?_) (fun g126 => ?_)
   ·
    try simp only [Ya, Yb, Yc, Yd, Ye, Yf] at g126
    refine Ko rfl $ Km rfl $ Ko rfl $ E.bstr rfl (hM.sl 15 rfl) U22 U5 U9 rfl $ Ko rfl $ Km rfl $ Ko rfl $ E.bstr rfl (hM.sl 10 rfl) U22 U5 U9 rfl $ Ko rfl $ E.eqstr (l := P) (m := P) rfl rfl rfl $ Kr rfl $ Km rfl $ E.split 133 rfl (fun g133 => ?_) (fun g133 => ?_)
    ·
     try simp only [Ya, Yb, Yc, Yd, Ye, Yf] at g133
     refine Ko rfl $ E.loadA (cs := [i64 1, i64 1, vp]) rfl U24 rfl (by kernel_rfl) (hM.bat 14 rfl) rfl $ Ko rfl $ E.loadA (cs := [i64 1, i64 1, slv x58]) rfl U24 rfl (by kernel_rfl) (hM.bat 9 rfl) rfl $ Ko rfl $ E.call rfl rfl (EqualImage_ret 1 1 vp [0] 1 1 (slv x58) [0] _ (hM.sl 13 rfl) (hM.sl 8 rfl)) ?_
     rintro _ w17 ⟨rfl, x17⟩
     have hM := hM.ext x17
     try dsimp only [Za, Zb, Zc, Zd, repl] at hM
     refine Kr rfl $ Kn rfl $ E.nil $ X.join0  (Sub.cons (look_eq rfl (congrArg Value.bool (by decide))) $ Sub.nil _) rfl (hM.pick [] (by decide))
    try simp only [Ya, Yb, Yc, Yd, Ye, Yf] at g133
    simp at g133
   try simp only [Ya, Yb, Yc, Yd, Ye, Yf] at g126
   simp at g126
  try simp only [Ya, Yb, Yc, Yd, Ye, Yf] at g122
  simp at g122
 rintro  w18 hM
 refine C.ret $ ret1 rfl rfl ?_
 exact ⟨rfl, hM.toExt⟩
end Go.Proofs.YtajklleiifhipaaGreatDoor
