/- Texts of the claim, laid together: Dg35, Dg14, Dg36, Pg23. -/
import Derived.Test.YtajklleiifhipaaGreatDoorV0
import Derived.Test.YtajklleiifhipaaGreatDoorV3
import Derived.Test.YtajklleiifhipaaGreatDoorV5
import Derived.Test.YtajklleiifhipaaGreatDoorV13
import Derived.Test.YtajklleiifhipaaGreatDoorV14
import Derived.Test.YtajklleiifhipaaGreatDoorV18
import Derived.Test.YtajklleiifhipaaGreatDoorV21
import Derived.Test.YtajklleiifhipaaGreatDoorV22
import Derived.Test.YtajklleiifhipaaGreatDoorV23
set_option linter.unusedSimpArgs false
set_option linter.unusedVariables false
namespace Go.Proofs.YtajklleiifhipaaGreatDoor
open Go.RowKit Sym
set_option maxHeartbeats 8000000 in
set_option maxRecDepth 8000 in
theorem rwown_ret (b : Nat) (vo vt : Value) (B : List Bool) (ts : List Nat) (w : World) (hs : Sep w [Rg.blk b 93 [vo, i64 (fr B)], Rg.sl u8 5 vo (Df.pk B), Rg.sl i64 3 vt (nz ts)]) (htk : ∀ t ∈ ts, Df.Tok t) (hl : B.length ≤ 1000) (htl0 : ts.length ≤ 100000) :
  Ret Tryz.prog 77 #[pv b, vt] w fun v w' => ∃ vn, M w (fpU [Rg.blk b 93 [vo, i64 (fr B)], Rg.sl u8 5 vo (Df.pk B), Rg.sl i64 3 vt (nz ts)]) w' [Rg.blk b 93 [vn, i64 (fr (B ++ Df.low 5 3 ++ Df.hdr (Df.blL 2 ts) (Df.blD 2 ts) ++ Df.tbs (Df.blL 2 ts) (Df.blD 2 ts) ts ++ btv (Pf.code (Df.blL 2 ts) 256) ((Df.blL 2 ts).getD 256 0)))], Rg.sl u8 5 vn (Df.pk (B ++ Df.low 5 3 ++ Df.hdr (Df.blL 2 ts) (Df.blD 2 ts) ++ Df.tbs (Df.blL 2 ts) (Df.blD 2 ts) ts ++ btv (Pf.code (Df.blL 2 ts) 256) ((Df.blL 2 ts).getD 256 0))), Rg.sl i64 3 vt (nz ts)] := by
 have hM := M.startS hs
 refine enter Tryz.func77 rfl (by kernel_rfl) Tryz.ntmps77 rfl $ Kb $ Km rfl $ ?_
 obtain ⟨ga, gb, hbL, hbD, hkL, hkD, gg, gh, gi⟩ := Df.bl_ok 2 (ts := ts) (by omega)
 obtain ⟨hL, hD⟩ := gi (by decide)
 obtain ⟨L, hLe⟩ : ∃ x, x = Df.blL 2 ts := ⟨_, rfl⟩
 obtain ⟨D, hDe⟩ : ∃ x, x = Df.blD 2 ts := ⟨_, rfl⟩
 rw [← hLe, ← hDe]
 rw [← hLe] at hbL hkL hL
 rw [← hDe] at hbD hkD hD
 have hLo : Df.oln (Df.fql ts) 15 = L := by rw [hLe, Df.blL, if_neg (by decide)]
 have hDo : Df.oln (Df.fqd ts) 15 = D := by rw [hDe, Df.blD, if_neg (by decide)]
 have hc1 := Df.ctn_le L 257
 have hc2 := Df.ctn_le D 1
 have hc3 := Df.ctn_ge (l := L) (least := 257) (by omega)
 have hc4 := Df.ctn_ge (l := D) (least := 1) (by omega)
 have hal := Df.allL_len hL hD
 have hst := Df.sq_ok (m := 15) (Df.allL_mem hbL hbD) 0
 have hsl := Df.sq_len (Df.allL L D) 0
 obtain ⟨st, hste⟩ : ∃ x, x = Df.sq (Df.allL L D) 0 := ⟨_, rfl⟩
 rw [← hste] at hst hsl
 obtain ⟨hlw, hll, hlp, _, _⟩ := Df.oln_law (fs := Df.frqS st) (m := 7) (by decide) (by decide) (fun n hn => by have := Df.frqS_bd st n hn; omega) (by rw [Df.frqS_len]; decide) (by rw [Df.frqS_len]; decide)
 obtain ⟨hcb, hck⟩ := Df.oln_ok (fs := Df.frqS st) (m := 7) (by decide) (by decide) (fun n hn => by have := Df.frqS_bd st n hn; omega) (by rw [Df.frqS_len]; decide) (by rw [Df.frqS_len]; decide)
 obtain ⟨c, hce⟩ : ∃ x, x = Df.oln (Df.frqS st) 7 := ⟨_, rfl⟩
 rw [← hce] at hlw hll hlp hcb hck
 rw [Df.frqS_len] at hll
 have hc30 : ∀ n ∈ c, n ≤ 30 := fun n hn => Nat.le_trans (hcb n hn) (by decide)
 have hhd : Df.hdr L D = Df.low (Df.ctn L 257 - 257) 5 ++ Df.low (Df.ctn D 1 - 1) 5 ++ Df.low (Df.ctn (Df.lst c) 4 - 4) 4 ++ Df.hdr3 c (Df.ctn (Df.lst c) 4) ++ st.flatMap (Df.sbits c) := by rw [hce, hste]; rfl
 have hk1 := Df.ctn_le (Df.lst c) 4
 have hk2 := Df.ctn_ge (l := Df.lst c) (least := 4) (by rw [Df.lst_len]; decide)
 rw [Df.lst_len] at hk1
 refine E.call rfl rfl (rcounts_ret vt ts _ (hM.sl 2 rfl) htk (by omega)) ?_
 rintro _ w1 ⟨vf, vg, rfl, m⟩
 have hM := hM.call m
 try dsimp only [Za, Zb, Zc, Zd, repl] at hM
 try dsimp only [Za, Zb, Zc, Zd, repl] at hM
 refine Km rfl $ E.ext rfl rfl rfl $ E.ext rfl rfl rfl $ Kn rfl $ Kd rfl $ Km rfl $ E.call rfl rfl (rLengths_ret vf (nz (Df.fql ts)) 15 _ (hM.sl 3 rfl)) ?_
 rintro _ w2 ⟨v32, rfl, m⟩
 have hM := hM.call m
 try dsimp only [Za, Zb, Zc, Zd, repl] at hM
 rw [show lnv (nz (Df.fql ts)) 15 = _ from (Df.oln_law (fs := Df.fql ts) (m := 15) (by decide) (by decide) (fun n hn => by have := Df.fql_bd ts n hn; omega) (by rw [Df.fql_len]; decide) (by rw [Df.fql_len]; decide)).1, hLo] at hM
 try dsimp only [Za, Zb, Zc, Zd, repl] at hM
 refine Km rfl $ E.ext rfl rfl rfl $ E.ext rfl rfl rfl $ Kn rfl $ Kd rfl $ Km rfl $ E.call rfl rfl (rLengths_ret vg (nz (Df.fqd ts)) 15 _ (hM.sl 4 rfl)) ?_
 rintro _ w3 ⟨v37, rfl, m⟩
 have hM := hM.call m
 try dsimp only [Za, Zb, Zc, Zd, repl] at hM
 rw [show lnv (nz (Df.fqd ts)) 15 = _ from (Df.oln_law (fs := Df.fqd ts) (m := 15) (by decide) (by decide) (fun n hn => by have := Df.fqd_bd ts n hn; omega) (by rw [Df.fqd_len]; decide) (by rw [Df.fqd_len]; decide)).1, hDo] at hM
 try dsimp only [Za, Zb, Zc, Zd, repl] at hM
 refine Km rfl $ E.ext rfl rfl rfl $ E.ext rfl rfl rfl $ Kn rfl $ Kd rfl $ Km rfl $ E.call rfl rfl (rcut_ret v32 L 257 _ (hM.sl 5 rfl) (by omega)) ?_
 rintro _ w4 ⟨rfl, x4⟩
 have hM := hM.ext x4
 try dsimp only [Za, Zb, Zc, Zd, repl] at hM
 refine Kd rfl $ Km rfl $ E.call rfl rfl (rcut_ret v37 D 1 _ (hM.sl 6 rfl) (by omega)) ?_
 rintro _ w5 ⟨rfl, x5⟩
 have hM := hM.ext x5
 try dsimp only [Za, Zb, Zc, Zd, repl] at hM
 refine Kd rfl $ E.mkM (enc := i64) (e := 3) [] hM rfl (fun _ => by kernel_rfl) rfl rfl rfl ?_
 intro v44 w5 hM
 try dsimp only [Za, Zb, Zc, Zd, repl] at hM
 refine Kf rfl $ E.slcP (k := .i64) 0 (Df.ctn L 257) rfl (.inr ⟨rfl, rfl⟩) (.inl rfl) (hM.sl 5 rfl) U76 (by kernel_rfl) (by omega) (by rw [nz_len]; omega) rfl $ E.appendM 7 hM rfl rfl rfl U76 elem_Tint (nz_cut (hM.sl 5 rfl) hc1) (fun _ => rfl) (by simp only [nz_len, List.length_take, List.length_nil]; omega) (by simp only [nz_len, List.length_take, List.length_nil]; omega) rfl ?_
 intro v48 w6 hM
 try dsimp only [Za, Zb, Zc, Zd, repl] at hM
 refine Kd rfl $ Kf rfl $ Km rfl $ E.slcP (k := .i64) 0 (Df.ctn D 1) rfl (.inr ⟨rfl, rfl⟩) (.inl rfl) (hM.sl 6 rfl) U76 (by kernel_rfl) (by omega) (by rw [nz_len]; omega) rfl $ E.appendM 7 hM rfl rfl rfl U76 elem_Tint (nz_cut (hM.sl 6 rfl) hc2) (fun _ => rfl) (by simp only [nz_len, List.length_take]; omega) (by simp only [nz_len, List.length_take]; omega) rfl ?_
 intro v53 w7 hM
 try dsimp only [Za, Zb, Zc, Zd, repl] at hM
 rw [← nz_app'] at hM
 refine Kd rfl $ Km rfl $ E.call rfl rfl (runs_ret v53 (Df.allL L D) _ (hM.sl 7 rfl) (by omega)) ?_
 rintro v55 w6 m
 have hM := hM.call m
 try dsimp only [Za, Zb, Zc, Zd, repl] at hM
 rw [← hste] at hM
 try dsimp only [Za, Zb, Zc, Zd, repl] at hM
 refine Kd rfl $ E.makeM (by_ := 8) (enc := i64) (0 : Int) hM (n := 19) rfl U76 (by kernel_rfl) rfl (by decide) (by decide) rfl ?_
 intro v56 w9 hM
 try dsimp only [Za, Zb, Zc, Zd, repl] at hM
 rw [← nz_rep] at hM
 refine Kc rfl $ C.seq $ Kb $ Kc rfl $ C.block $ C.loop1 [(0, _), (1, _), (6, _), (8, _), (10, _), (11, _), (13, _), (14, _)] rfl (fun (i : Nat) => [(15, i64 i)]) (fun (i : Nat) w' => M w (fpU [Rg.blk b 93 [vo, i64 (fr B)], Rg.sl u8 5 vo (Df.pk B), Rg.sl i64 3 vt (nz ts)]) w' [Rg.blk b 93 [vo, i64 (fr B)], Rg.sl u8 5 vo (Df.pk B), Rg.sl i64 3 vt (nz ts), Rg.sl i64 3 v32 (nz L), Rg.sl i64 3 v37 (nz D), Rg.slF esr 3 137 v55 st, Rg.sl i64 3 v56 (nz (Df.frqS (st.take i)))] ∧ i ≤ st.length) (fun (i : Nat) => st.length - i) 0 ?_ ?_ ?_
 · exact S1 rfl
 · exact ⟨hM.pick [0, 1, 2, 5, 6, 8, 9] (by decide), Nat.zero_le _⟩
 rintro i w10 ⟨hM, hi⟩
 refine C.seq $ Kb $ Kf rfl $ E.lenv rfl (RdF.shape (hM.slF 5 rfl)) Tryz.underlying134 rfl $ Kp rfl $ Ka $ C.cond' rfl (fun hC0 => ?_) (fun hC0 => ?_)
 ·
  have hi' : i < st.length := by omega
  have hfl := Df.frqS_len (st.take i)
  have hfb := Df.frqS_bd (st.take i)
  have htl : (st.take i).length ≤ 316 := by rw [List.length_take]; omega
  have hx1 : st[i].1 < 19 := by rcases hst _ (List.getElem_mem hi') with h | h | h | h <;> omega
  have hfs := Df.frqS_snoc hi'
  refine Kk $ C.seq $ C.block $ C.region $ Kf rfl $ Km rfl $ E.idxF (k := i) rfl rfl (hM.slF 5 rfl) rfl hi' (by decide) Tryz.underlying134 (by kernel_rfl) rfl $ E.fld (o := 0) (sz := 0) rfl Tryz.underlying137 rfl rfl (by kernel_rfl) rfl $ E.load rfl U3 rfl ((hM.slF 5 rfl).atA (k := i) (o := 0) rfl hi' rfl) rfl $ E.get (k := st[i].1) rfl rfl (hM.sl 6 rfl) rfl (by rw [nz_len]; omega) U76 (by kernel_rfl) U3 rfl rfl rfl ?_
  rw [nz_gd]
  refine E.addN (a := (Df.frqS (st.take i)).getD st[i].1 0) (b := 1) rfl rfl (by have := gdB hfb st[i].1; omega) rfl $ E.idx1 (k := st[i].1) rfl rfl (hM.sl 6 rfl) rfl (by rw [nz_len]; omega) U76 (by kernel_rfl) rfl $ E.storeL (enc := i64) 6 (((Df.frqS (st.take i)).getD st[i].1 0 + 1 : Nat) : Int) hM rfl rfl rfl (by kernel_rfl) rfl rfl (by rw [nz_len]; omega) ?_
  intro w11 hM
  try dsimp only [Za, Zb, Zc, Zd, repl] at hM
  rw [Df.nz_bmp, ← hfs] at hM
  refine E.nil $ X.outN $ X.next $ C.region $ Km rfl $ E.addN (a := i) (b := 1) rfl rfl (by omega) rfl $ Kn rfl $ E.nil $ X.again1 (i + 1) (S1 rfl) rfl ⟨hM, by omega⟩ (by omega)
 obtain rfl : i = st.length := by omega
 rw [List.take_length] at hM
 refine Kx $ Kb $ Km rfl $ E.call rfl rfl (rLengths_ret v56 (nz (Df.frqS st)) 7 _ (hM.sl 6 rfl)) ?_
 rintro _ w8 ⟨v75, rfl, m⟩
 have hM := hM.call m
 try dsimp only [Za, Zb, Zc, Zd, repl] at hM
 rw [show lnv (nz (Df.frqS st)) 7 = _ from hlw] at hM
 try dsimp only [Za, Zb, Zc, Zd, repl] at hM
 refine Km rfl $ E.ext rfl rfl rfl $ E.ext rfl rfl rfl $ Kn rfl $ Kd rfl $ Km rfl $ E.call rfl rfl (rCodes_ret v75 (nz c) _ (hM.sl 7 rfl)) ?_
 rintro _ w9 ⟨v80, rfl, m⟩
 have hM := hM.call m
 try dsimp only [Za, Zb, Zc, Zd, repl] at hM
 rw [cdv_ok hc30 hck (by omega)] at hM
 try dsimp only [Za, Zb, Zc, Zd, repl] at hM
 refine Km rfl $ E.ext rfl rfl rfl $ E.ext rfl rfl rfl $ Kn rfl $ Kd rfl $ Kc rfl $ C.seq $ Kb $ Kc rfl $ C.block $ ?_
 have hM := hM.nil i64 3
 try dsimp only [Za, Zb, Zc, Zd, repl] at hM
 refine C.loop2 [(0, _), (1, _), (6, _), (8, _), (10, _), (11, _), (13, _), (16, _), (18, _)] rfl (fun (i : Nat) (vq : Value) => [(20, vq), (21, i64 i)]) (fun (i : Nat) (vq : Value) w' => M w (fpU [Rg.blk b 93 [vo, i64 (fr B)], Rg.sl u8 5 vo (Df.pk B), Rg.sl i64 3 vt (nz ts)]) w' [Rg.blk b 93 [vo, i64 (fr B)], Rg.sl u8 5 vo (Df.pk B), Rg.sl i64 3 vt (nz ts), Rg.sl i64 3 v32 (nz L), Rg.sl i64 3 v37 (nz D), Rg.slF esr 3 137 v55 st, Rg.sl i64 3 v75 (nz c), Rg.sl i64 3 v80 (Pf.cdl c), Rg.sl i64 3 vq (tab i (lsf c))] ∧ i ≤ 19) (fun (i : Nat) (vq : Value) => 19 - i) 0 (.slice none 0 0) ?_ ?_ ?_
 · exact Sub.cons rfl $ S1 rfl
 · exact ⟨hM.pick [0, 1, 2, 3, 4, 5, 7, 8, 9] (by decide), by omega⟩
 rintro i vq w14 ⟨hM, hi⟩
 refine C.seq $ Kb $ Km rfl $ Kp rfl $ Ka $ C.cond' rfl (fun hC1 => ?_) (fun hC1 => ?_)
 ·
  have hi' : i < 19 := by omega
  have hol := ord_lt i hi'
  have htl := tab_len i (lsf c)
  refine Kk $ C.seq $ C.block $ C.region $ Kf rfl $ E.call rfl rfl (rorder_ret _) ?_
  rintro v89 w10 m
  have hM := hM.call m
  try dsimp only [Za, Zb, Zc, Zd, repl] at hM
  try dsimp only [Za, Zb, Zc, Zd, repl] at hM
  refine Km rfl $ E.get (k := i) rfl rfl (hM.sl 9 rfl) rfl (by rw [nz_len]; exact hi') U76 (by kernel_rfl) U3 rfl rfl rfl ?_
  rw [nz_gd]
  refine E.get (k := Df.ordL.getD i 0) rfl rfl (hM.sl 6 rfl) rfl (by rw [nz_len]; omega) U76 (by kernel_rfl) U3 rfl rfl rfl ?_
  rw [nz_gd]
  refine E.pushM (enc := i64) 8 (lsf c i) hM rfl rfl rfl U76 elem_Tint rfl (by omega) (by omega) (by simp) rfl rfl ?_
  intro v96 u96 w16 hM
  try dsimp only [Za, Zb, Zc, Zd, repl] at hM
  refine Kn rfl $ E.nil $ X.outN $ X.next $ C.region $ Km rfl $ E.addN (a := i) (b := 1) rfl rfl (by omega) rfl $ Kn rfl $ E.nil $ X.again2 (i + 1) v96 (Sub.cons rfl $ S1 rfl) rfl ⟨(hM.pick [0, 1, 2, 3, 4, 5, 6, 7, 8] (by decide)).to (by rw [tab_succ]; rfl), by omega⟩ (by omega)
 obtain rfl : i = 19 := by omega
 rw [lsf_all] at hM
 refine Kx $ Kb $ Km rfl $ E.call rfl rfl (rcut_ret vq (Df.lst c) 4 _ (hM.sl 8 rfl) (by rw [Df.lst_len]; decide)) ?_
 rintro _ w11 ⟨rfl, x11⟩
 have hM := hM.ext x11
 try dsimp only [Za, Zb, Zc, Zd, repl] at hM
 refine Kd rfl $ Km rfl $ E.call rfl rfl (rbits_ret b vo _ 5 3 _ (hM.pick [0, 1] (by decide)).sep (by omega) (by decide) (by omega)) ?_
 rintro _ w12 ⟨vn12, m⟩
 have hM := hM.calls [0, 1] (by decide) rfl (by simp) m
 try dsimp only [Za, Zb, Zc, Zd, repl] at hM
 try dsimp only [Za, Zb, Zc, Zd, repl] at hM
 refine Ke $ Kf rfl $ E.subN (a := Df.ctn L 257) (b := 257) rfl rfl (by omega) rfl $ E.call rfl rfl (rbits_ret b vn12 _ (Df.ctn L 257 - 257) 5 _ (hM.pick [0, 1] (by decide)).sep (by omega) (by decide) (by simp only [List.length_append, Df.low_len]; omega)) ?_
 rintro _ w13 ⟨vn13, m⟩
 have hM := hM.calls [0, 1] (by decide) rfl (by simp) m
 try dsimp only [Za, Zb, Zc, Zd, repl] at hM
 try dsimp only [Za, Zb, Zc, Zd, repl] at hM
 refine Ke $ Kf rfl $ E.subN (a := Df.ctn D 1) (b := 1) rfl rfl (by omega) rfl $ E.call rfl rfl (rbits_ret b vn13 _ (Df.ctn D 1 - 1) 5 _ (hM.pick [0, 1] (by decide)).sep (by omega) (by decide) (by simp only [List.length_append, Df.low_len]; omega)) ?_
 rintro _ w14 ⟨vn14, m⟩
 have hM := hM.calls [0, 1] (by decide) rfl (by simp) m
 try dsimp only [Za, Zb, Zc, Zd, repl] at hM
 try dsimp only [Za, Zb, Zc, Zd, repl] at hM
 refine Ke $ Kf rfl $ E.subN (a := Df.ctn (Df.lst c) 4) (b := 4) rfl rfl (by omega) rfl $ E.call rfl rfl (rbits_ret b vn14 _ (Df.ctn (Df.lst c) 4 - 4) 4 _ (hM.pick [0, 1] (by decide)).sep (by omega) (by decide) (by simp only [List.length_append, Df.low_len]; omega)) ?_
 rintro _ w15 ⟨vn15, m⟩
 have hM := hM.calls [0, 1] (by decide) rfl (by simp) m
 try dsimp only [Za, Zb, Zc, Zd, repl] at hM
 try dsimp only [Za, Zb, Zc, Zd, repl] at hM
 refine Ka $ C.seq $ Kb $ Kc rfl $ C.block $ C.loop2 [(0, _), (1, _), (6, _), (8, _), (13, _), (16, _), (18, _), (20, _), (22, _)] rfl (fun (i : Nat) (vs : Value) => [(23, i64 i)]) (fun (i : Nat) (vs : Value) w' => M w (fpU [Rg.blk b 93 [vo, i64 (fr B)], Rg.sl u8 5 vo (Df.pk B), Rg.sl i64 3 vt (nz ts)]) w' [Rg.blk b 93 [vs, i64 (fr (B ++ Df.low 5 3 ++ Df.low (Df.ctn L 257 - 257) 5 ++ Df.low (Df.ctn D 1 - 1) 5 ++ Df.low (Df.ctn (Df.lst c) 4 - 4) 4 ++ Df.hdr3 c i))], Rg.sl u8 5 vs (Df.pk (B ++ Df.low 5 3 ++ Df.low (Df.ctn L 257 - 257) 5 ++ Df.low (Df.ctn D 1 - 1) 5 ++ Df.low (Df.ctn (Df.lst c) 4 - 4) 4 ++ Df.hdr3 c i)), Rg.sl i64 3 vt (nz ts), Rg.sl i64 3 v32 (nz L), Rg.sl i64 3 v37 (nz D), Rg.slF esr 3 137 v55 st, Rg.sl i64 3 v75 (nz c), Rg.sl i64 3 v80 (Pf.cdl c), Rg.sl i64 3 vq (nz (Df.lst c))] ∧ i ≤ Df.ctn (Df.lst c) 4) (fun (i : Nat) (vs : Value) => Df.ctn (Df.lst c) 4 - i) 0 vn15 ?_ ?_ ?_
 · exact S1 rfl
 · exact ⟨hM.to (by rw [show Df.hdr3 c 0 = [] from rfl, List.append_nil]), Nat.zero_le _⟩
 rintro i vs w22 ⟨hM, hi⟩
 refine C.seq $ Kb $ Kf rfl $ Kp rfl $ Ka $ C.cond' rfl (fun hC2 => ?_) (fun hC2 => ?_)
 ·
  have hi' : i < Df.ctn (Df.lst c) 4 := by omega
  have hhl := Df.hdr3_len c i
  have hsn := Df.hdr3_snoc (c := c) (i := i) (by omega)
  have hlb : (Df.lst c).getD i 0 ≤ 7 := gdB (l := Df.lst c) (B := 7) (fun n hn => by obtain ⟨s, _, rfl⟩ := List.mem_map.1 hn; exact gdB hcb s) i
  refine Kk $ C.seq $ C.block $ C.region $ Kf rfl $ Km rfl $ E.get (k := i) rfl rfl (hM.sl 8 rfl) rfl (by rw [nz_len, Df.lst_len]; omega) U76 (by kernel_rfl) U3 rfl rfl rfl ?_
  rw [nz_gd]
  refine E.call rfl rfl (rbits_ret b vs _ ((Df.lst c).getD i 0) 3 _ (hM.pick [0, 1] (by decide)).sep (by omega) (by decide) (by simp only [List.length_append, Df.low_len]; omega)) ?_
  rintro _ w16 ⟨vn16, m⟩
  have hM := hM.calls [0, 1] (by decide) rfl (by simp) m
  try dsimp only [Za, Zb, Zc, Zd, repl] at hM
  try dsimp only [Za, Zb, Zc, Zd, repl] at hM
  refine E.nil $ X.outN $ X.next $ C.region $ Km rfl $ E.addN (a := i) (b := 1) rfl rfl (by omega) rfl $ Kn rfl $ E.nil $ X.again2 (i + 1) vn16 (S1 rfl) rfl ⟨hM.to (by rw [hsn]; simp only [List.append_assoc]), by omega⟩ (by omega)
 obtain rfl : i = Df.ctn (Df.lst c) 4 := by omega
 obtain ⟨Bh, hBh⟩ : ∃ x, x = (B ++ Df.low 5 3 ++ Df.low (Df.ctn L 257 - 257) 5 ++ Df.low (Df.ctn D 1 - 1) 5 ++ Df.low (Df.ctn (Df.lst c) 4 - 4) 4 ++ Df.hdr3 c (Df.ctn (Df.lst c) 4)) := ⟨_, rfl⟩
 have hBl : Bh.length ≤ 1100 := by have := Df.hdr3_len c (Df.ctn (Df.lst c) 4); rw [hBh]; simp only [List.length_append, Df.low_len]; omega
 rw [← hBh] at hM
 refine Kx $ C.seq $ Kb $ Kc rfl $ C.block $ C.loop2 [(0, _), (1, _), (6, _), (8, _), (13, _), (16, _), (18, _)] rfl (fun (i : Nat) (vs : Value) => [(24, i64 i)]) (fun (i : Nat) (vs : Value) w' => M w (fpU [Rg.blk b 93 [vo, i64 (fr B)], Rg.sl u8 5 vo (Df.pk B), Rg.sl i64 3 vt (nz ts)]) w' [Rg.blk b 93 [vs, i64 (fr (Bh ++ (st.take i).flatMap (Df.sbits c)))], Rg.sl u8 5 vs (Df.pk (Bh ++ (st.take i).flatMap (Df.sbits c))), Rg.sl i64 3 vt (nz ts), Rg.sl i64 3 v32 (nz L), Rg.sl i64 3 v37 (nz D), Rg.slF esr 3 137 v55 st, Rg.sl i64 3 v75 (nz c), Rg.sl i64 3 v80 (Pf.cdl c)] ∧ i ≤ st.length) (fun (i : Nat) (vs : Value) => st.length - i) 0 vs ?_ ?_ ?_
 · exact S1 rfl
 · exact ⟨(hM.pick [0, 1, 2, 3, 4, 5, 6, 7] (by decide)).to (by rw [List.take_zero, List.flatMap_nil, List.append_nil]; rfl), Nat.zero_le _⟩
 rintro i vs w24 ⟨hM, hi⟩
 refine C.seq $ Kb $ Kf rfl $ E.lenv rfl (RdF.shape (hM.slF 5 rfl)) Tryz.underlying134 rfl $ Kp rfl $ Ka $ C.cond' rfl (fun hC3 => ?_) (fun hC3 => ?_)
 ·
  have hi' : i < st.length := by omega
  have hsx := hst _ (List.getElem_mem hi')
  have hx1 : st[i].1 < 19 := by rcases hsx with h | h | h | h <;> omega
  have hx2 : st[i].2.2 ≤ 7 ∧ st[i].2.1 ≤ 128 := by rcases hsx with h | h | h | h; (rw [h.2]; decide); omega; omega; omega
  have hsn := Df.sbs_snoc (c := c) hi'
  have hbl := Df.sbs_len hc30 (st := st.take i) (fun x hx => hst x (List.mem_of_mem_take hx))
  have htl : (st.take i).length ≤ 316 := by rw [List.length_take]; omega
  have hgc := Df.gd30 hc30 st[i].1
  refine Kk $ C.seq $ C.block $ Kb $ Kf rfl $ Km rfl $ E.idxF (k := i) rfl rfl (hM.slF 5 rfl) rfl hi' (by decide) Tryz.underlying134 (by kernel_rfl) rfl $ E.fld (o := 0) (sz := 0) rfl Tryz.underlying137 rfl rfl (by kernel_rfl) rfl $ E.load rfl U3 rfl ((hM.slF 5 rfl).atA (k := i) (o := 0) rfl hi' rfl) rfl $ Kf rfl $ E.call rfl rfl (rsymbol_ret b vs v75 v80 _ c st[i].1 _ (hM.pick [0, 1, 6, 7] (by decide)).sep (by omega) hc30 hck (by rw [List.length_append]; omega)) ?_
  rintro _ w18 ⟨vn18, m⟩
  have hM := hM.calls [0, 1, 6, 7] (by decide) rfl (by simp) m
  try dsimp only [Za, Zb, Zc, Zd, repl] at hM
  try dsimp only [Za, Zb, Zc, Zd, repl] at hM
  refine Ka $ C.drawnT 11 (by kernel_rfl) (by kernel_rfl) fun wh26 hwh26 => ?_
  have hM := hM.ext hwh26
  refine S.mv rfl rfl $ S.mv rfl rfl $ S.mv rfl rfl $ S.idxF (k := i) rfl rfl (hM.slF 5 rfl) rfl hi' (by decide) Tryz.underlying134 (by kernel_rfl) rfl $ S.fld (o := 2) (sz := 0) rfl Tryz.underlying137 rfl rfl (by kernel_rfl) rfl $ S.load rfl U3 rfl ((hM.slF 5 rfl).atA (k := i) (o := 2) rfl hi' rfl) rfl $ S.mv rfl rfl $ S.mv rfl rfl $ S.idxF (k := i) rfl rfl (hM.slF 5 rfl) rfl hi' (by decide) Tryz.underlying134 (by kernel_rfl) rfl $ S.fld (o := 1) (sz := 0) rfl Tryz.underlying137 rfl rfl (by kernel_rfl) rfl $ S.load rfl U3 rfl ((hM.slF 5 rfl).atA (k := i) (o := 1) rfl hi' rfl) rfl $ S.nil $ E.call rfl rfl (rbits_ret b vn18 _ st[i].2.1 st[i].2.2 _ (hM.pick [0, 1] (by decide)).sep (by omega) (by omega) (by simp only [List.length_append, btv_len]; omega)) ?_
  rintro _ w19 ⟨vn19, m⟩
  have hM := hM.calls [0, 1] (by decide) rfl (by simp) m
  try dsimp only [Za, Zb, Zc, Zd, repl] at hM
  try dsimp only [Za, Zb, Zc, Zd, repl] at hM
  refine E.nil $ X.outN $ X.next $ C.region $ Km rfl $ E.addN (a := i) (b := 1) rfl rfl (by omega) rfl $ Kn rfl $ E.nil $ X.again2 (i + 1) vn19 (S1 rfl) rfl ⟨hM.to (by rw [hsn, Df.sbits]; simp only [List.append_assoc]), by omega⟩ (by omega)
 obtain rfl : i = st.length := by omega
 rw [List.take_length] at hM
 obtain ⟨Bt, hBt⟩ : ∃ x, x = Bh ++ st.flatMap (Df.sbits c) := ⟨_, rfl⟩
 have hbl := Df.sbs_len hc30 hst
 have hBtl : Bt.length ≤ 20000 := by rw [hBt, List.length_append]; omega
 rw [← hBt] at hM
 have hfin : Bt = B ++ Df.low 5 3 ++ Df.hdr L D := by rw [hBt, hBh, hhd]; simp only [List.append_assoc]
 refine Kx $ C.region $ Kf rfl $ Kf rfl $ E.call rfl rfl (rtokens_ret b vs v32 v37 vt Bt L D ts _ (hM.pick [0, 1, 3, 4, 2] (by decide)).sep htk (by omega) (by omega) (by omega) (by omega) (fun n hn => Nat.le_trans (hbL n hn) (by decide)) (fun n hn => Nat.le_trans (hbD n hn) (by decide)) hkL hkD (by omega)) ?_
 rintro _ w20 ⟨vn20, m⟩
 have hM := hM.calls [0, 1, 3, 4, 2] (by decide) rfl (by simp) m
 try dsimp only [Za, Zb, Zc, Zd, repl] at hM
 try dsimp only [Za, Zb, Zc, Zd, repl] at hM
 refine E.nil $ end0 rfl ?_
 exact ⟨vn20, (hM.pick [0, 1, 2] (by decide)).to (by rw [hfin]; rfl)⟩
end Go.Proofs.YtajklleiifhipaaGreatDoor
namespace Go.Proofs.YtajklleiifhipaaGreatDoor
open Go.RowKit Sym
set_option maxHeartbeats 1000000 in
theorem requal_ret (p : Value) (l : List UInt8) (j a : Nat) (w : World) (hp : RdL u8 w p l) (hj : j < a) (hl : l.length ≤ 1000000) (ha : a ≤ l.length) :
  Ret Tryz.prog 143 #[p, i64 j, i64 a] w fun v w' => v = i64 (Df.eqn l j a : Int) ∧ Ext w w' := by
 have hM := M.start w
 refine enter Tryz.func143 rfl (by kernel_rfl) Tryz.ntmps143 rfl $ Kb $ Kd rfl $ Kc rfl $ C.seq $ C.block $ C.loop1 [(0, _), (1, _), (2, _)] rfl (fun (n : Nat) => [(7, i64 n)]) (fun (n : Nat) w' => M w (Nn) w' [] ∧ n ≤ 258 ∧ Df.ego l j a (258 - n) n = Df.eqn l j a) (fun (n : Nat) => 258 - n) 0 ?_ ?_ ?_
 · exact S1 rfl
 · exact ⟨hM, by omega, rfl⟩
 rintro n w0 ⟨hM, hn, he⟩
 refine C.seq $ C.chainQ [(0, _), (1, _), (2, _), (7, _)] rfl [(32, .bool (decide (n < 258 ∧ a + n < l.length ∧ l.getD (j + n) 0 = l.getD (a + n) 0)))] ?_ ?_
 ·
  refine C.drawn (by kernel_rfl) (by kernel_rfl) $ Q.mv rfl rfl $ Q.bin rfl rfl rfl rfl $ Q.mv rfl rfl $ Q.split 10 rfl (fun g10 => ?_) (fun g10 => ?_)
  ·
   try simp only [Ya, Yb, Yc, Yd, Ye, Yf] at g10
   refine Q.on rfl rfl (Q.mv rfl rfl ?_)
   refine Q.on rfl rfl (Q.mv rfl rfl ?_)
   refine Q.on rfl rfl (Q.addN (a := a) (b := n) rfl rfl (by omega) rfl ?_)
   refine Q.on rfl rfl (Q.mv rfl rfl ?_)
   refine Q.on rfl rfl (Q.lenv rfl (Rd.shape (hM.arg0 hp)) U22 rfl ?_)
   refine Q.on rfl rfl (Q.bin rfl rfl rfl rfl ?_)
   refine Q.pick rfl rfl rfl $ Q.mv rfl rfl $ Q.split 18 rfl (fun g18 => ?_) (fun g18 => ?_)
   ·
    try simp only [Ya, Yb, Yc, Yd, Ye, Yf] at g18
    have g1 := gdU (l := l) (i := j + n) (by omega)
    have g2 := gdU (l := l) (i := a + n) (by omega)
    refine Q.on rfl rfl (Q.mv rfl rfl ?_)
    refine Q.on rfl rfl (Q.mv rfl rfl ?_)
    refine Q.on rfl rfl (Q.mv rfl rfl ?_)
    refine Q.on rfl rfl (Q.addN (a := j) (b := n) rfl rfl (by omega) rfl ?_)
    refine Q.on rfl rfl (Q.idx1 (k := j + n) rfl rfl (hM.arg0 hp) rfl (by omega) U22 (by kernel_rfl) rfl ?_)
    refine Q.on rfl rfl (Q.load rfl U5 rfl ((hM.arg0 hp).cell (by omega)) rfl ?_)
    refine Q.on rfl rfl (Q.mv rfl rfl ?_)
    refine Q.on rfl rfl (Q.mv rfl rfl ?_)
    refine Q.on rfl rfl (Q.mv rfl rfl ?_)
    refine Q.on rfl rfl (Q.addN (a := a) (b := n) rfl rfl (by omega) rfl ?_)
    refine Q.on rfl rfl (Q.idx1 (k := a + n) rfl rfl (hM.arg0 hp) rfl (by omega) U22 (by kernel_rfl) rfl ?_)
    refine Q.on rfl rfl (Q.load rfl U5 rfl ((hM.arg0 hp).cell (by omega)) rfl ?_)
    refine Q.on rfl rfl (Q.bin rfl rfl rfl rfl ?_)
    rw [show (decide (((l[j + n]'(by omega)).toNat : Int) = ((l[a + n]'(by omega)).toNat : Int))) = decide (l.getD (j + n) 0 = l.getD (a + n) 0) by rw [g1, g2]; exact decide_eq_decide.2 ⟨fun h => Df.u8_ext (by omega), fun h => by rw [h]⟩]
    refine Q.pick rfl rfl rfl $ Q.nil $ fun w1 hx1 => X.join0 (Sub.cons (by exact leaf_d ⟨fun h => ⟨by omega, by omega, h⟩, fun h => h.2.2⟩) $ Sub.nil _) rfl hx1
   try simp only [Ya, Yb, Yc, Yd, Ye, Yf] at g18
   refine Q.off rfl rfl rfl rfl $ Q.off rfl rfl rfl rfl $ Q.off rfl rfl rfl rfl $ Q.off rfl rfl rfl rfl $ Q.off rfl rfl rfl rfl $ Q.off rfl rfl rfl rfl $ Q.off rfl rfl rfl rfl $ Q.off rfl rfl rfl rfl $ Q.off rfl rfl rfl rfl $ Q.off rfl rfl rfl rfl $ Q.off rfl rfl rfl rfl $ Q.off rfl rfl rfl rfl $ Q.off rfl rfl rfl rfl $ Q.pick rfl rfl rfl $ Q.nil $ fun w2 hx2 => X.join0 (Sub.cons (by exact leaf_f (by omega)) $ Sub.nil _) rfl hx2
  try simp only [Ya, Yb, Yc, Yd, Ye, Yf] at g10
  refine Q.off rfl rfl rfl rfl $ Q.off rfl rfl rfl rfl $ Q.off rfl rfl rfl rfl $ Q.off rfl rfl rfl rfl $ Q.off rfl rfl rfl rfl $ Q.off rfl rfl rfl rfl $ Q.pick rfl rfl rfl $ Q.mv rfl rfl $ Q.off rfl rfl rfl rfl $ Q.off rfl rfl rfl rfl $ Q.off rfl rfl rfl rfl $ Q.off rfl rfl rfl rfl $ Q.off rfl rfl rfl rfl $ Q.off rfl rfl rfl rfl $ Q.off rfl rfl rfl rfl $ Q.off rfl rfl rfl rfl $ Q.off rfl rfl rfl rfl $ Q.off rfl rfl rfl rfl $ Q.off rfl rfl rfl rfl $ Q.off rfl rfl rfl rfl $ Q.off rfl rfl rfl rfl $ Q.pick rfl rfl rfl $ Q.nil $ fun w3 hx3 => X.join0 (Sub.cons (by exact leaf_f (by omega)) $ Sub.nil _) rfl hx3
 intro w4 hx4
 have hM := hM.ext hx4
 refine C.cond' rfl (fun hC0 => ?_) (fun hC0 => ?_)
 ·
  have he' : Df.ego l j a (258 - (n + 1)) (n + 1) = Df.eqn l j a := by
   rw [← he, show 258 - n = 258 - (n + 1) + 1 by omega, Df.ego, if_pos hC0.2]
  refine Kk $ C.block $ C.region $ Km rfl $ E.addN (a := n) (b := 1) rfl rfl (by omega) rfl $ Kn rfl $ E.nil $ X.outN $ X.again1 (n + 1) (S1 rfl) rfl ⟨hM, by omega, he'⟩ (by omega)
 have hfin : Df.eqn l j a = n := by
  rw [← he]
  cases h : 258 - n with
  | zero => rfl
  | succ f => rw [Df.ego, if_neg (fun c => hC0 ⟨by omega, c⟩)]
 refine Kx $ Kb $ Km rfl $ Kc rfl $ C.ret $ ret1 rfl rfl ?_
 exact ⟨by rw [hfin], hM.toExt⟩
set_option maxHeartbeats 1000000 in
theorem rbest_ret (p : Value) (l : List UInt8) (a : Nat) (w : World) (hp : RdL u8 w p l) (ha : a < l.length) (hl : l.length ≤ 32768) :
    Ret Tryz.prog 102 #[p, i64 a] w fun v w' => v = .tuple #[i64 ((Df.bst l a).1 : Int), i64 ((Df.bst l a).2 : Int)] ∧ Ext w w' := by
  have hM := M.start w
  refine enter Tryz.func102 rfl (by kernel_rfl) Tryz.ntmps102 rfl $ Kb $ Kn rfl $ Kd rfl $ Kd rfl $ Kd rfl $ Kc rfl $ C.seq $ Kb $ Km rfl $ E.sub' rfl rfl (by omega) rfl $ Kc rfl $ C.block $ C.loop4 [(0, _), (1, _)] rfl (fun (j : Nat) (len : Nat) (dist : Nat) (n : Nat) => [(6, i64 len), (7, i64 dist), (8, i64 n), (9, i64 ((j : Int) - 1))]) (fun (j : Nat) (len : Nat) (dist : Nat) (n : Nat) w' => M w (Nn) w' [] ∧ n ≤ 32 ∧ j ≤ a ∧ len ≤ 258 ∧ dist ≤ a ∧ Df.bgo l a j len dist n = Df.bst l a) (fun (j : Nat) (len : Nat) (dist : Nat) (n : Nat) => j) a 0 0 0 ?_ ?_ ?_
  · exact Sub.cons rfl $ Sub.cons rfl $ Sub.cons rfl $ S1 rfl
  · exact ⟨hM, by omega, Nat.le_refl _, by omega, by omega, rfl⟩
  rintro j len dist n w0 ⟨hM, hn, hja, hle, hdi, hbg⟩
  refine C.seq $ C.chainE [(0, _), (1, _), (6, _), (7, _), (8, _), (9, _)] rfl [(24, .bool (decide (0 < j ∧ n < 32)))] ?_ ?_
  ·
    refine C.region $ Km rfl $ Kp rfl $ Km rfl $ E.split 15 rfl (fun g15 => ?_) (fun g15 => ?_)
    ·
      try simp only [Ya, Yb, Yc, Yd, Ye, Yf] at g15
      refine Ko rfl $ Km rfl $ Ko rfl $ Km rfl $ Ko rfl $ E.sub' rfl rfl (by omega) rfl $ Ko rfl $ Kp rfl $ Kr rfl $ Km rfl $ E.split 21 rfl (fun g21 => ?_) (fun g21 => ?_)
      ·
        try simp only [Ya, Yb, Yc, Yd, Ye, Yf] at g21
        refine Ko rfl $ Km rfl $ Ko rfl $ Kp rfl $ Kr rfl $ E.nil $ X.join0 (Sub.cons (by exact leaf_d (by omega)) $ Sub.nil _) rfl rfl
      try simp only [Ya, Yb, Yc, Yd, Ye, Yf] at g21
      refine Kq rfl $ Kq rfl $ Kr rfl $ E.nil $ X.join0 (Sub.cons (by exact leaf_f (by omega)) $ Sub.nil _) rfl rfl
    try simp only [Ya, Yb, Yc, Yd, Ye, Yf] at g15
    refine Kq rfl $ Kq rfl $ Kq rfl $ Kq rfl $ Kr rfl $ Km rfl $ Kq rfl $ Kq rfl $ Kr rfl $ E.nil $ X.join0 (Sub.cons (by exact leaf_f (by omega)) $ Sub.nil _) rfl rfl
  refine C.cond' rfl (fun hC0 => ?_) (fun hC0 => ?_)
  ·
    obtain ⟨q, rfl⟩ : ∃ q, j = q + 1 := ⟨j - 1, by omega⟩
    rw [Df.bgo, if_neg (by omega)] at hbg
    rw [show ((q + 1 : Nat) : Int) - 1 = (q : Int) by omega]
    have heq := (Df.eqn_spec l q a).1
    refine Kk $ C.cut3 [(0, _), (1, _), (9, _)] rfl (fun (len : Nat) (dist : Nat) (n : Nat) => [(6, i64 len), (7, i64 dist), (8, i64 n)]) (fun (len : Nat) (dist : Nat) (n : Nat) w' => M w (Nn) w' [] ∧ n ≤ 32 ∧ len ≤ 258 ∧ dist ≤ a ∧ Df.bgo l a q len dist n = Df.bst l a) ?_ ?_
    ·
      refine C.block $ Kb $ Kf rfl $ Km rfl $ E.call rfl rfl (requal_ret p l q a _ (hM.arg0 hp) (by omega) (by omega) (by omega)) ?_
      rintro _ w3 ⟨rfl, x3⟩
      have hM := hM.ext x3
      refine Kd rfl $ Km rfl $ Kp rfl $ Ka $ C.cond' rfl (fun hC1 => ?_) (fun hC1 => ?_)
      ·
        rw [if_pos (show 3 ≤ Df.eqn l q a by omega)] at hbg
        refine Kb $ Km rfl $ E.addN (a := n) (b := 1) rfl rfl (by omega) rfl $ Kd rfl $ Kf rfl $ Kp rfl $ Ka $ C.cond' rfl (fun hC2 => ?_) (fun hC2 => ?_)
        ·
          rw [if_pos (show len < Df.eqn l q a by omega)] at hbg
          refine Kb $ Km rfl $ Kc rfl $ C.region $ Kf rfl $ E.subN (a := a) (b := q) rfl rfl (by omega) rfl $ Kn rfl $ E.nil $ X.outN $ X.join3 (Df.eqn l q a) (a - q) (n + 1) (Sub.cons rfl $ Sub.cons rfl $ S1 rfl) rfl ⟨hM, by omega, heq, by omega, hbg⟩
        rw [if_neg (show ¬ len < Df.eqn l q a by omega)] at hbg
        refine C.skip $ X.outN $ X.join3 len dist (n + 1) (Sub.cons rfl $ Sub.cons rfl $ S1 rfl) rfl ⟨hM, by omega, hle, hdi, hbg⟩
      rw [if_neg (show ¬ 3 ≤ Df.eqn l q a by omega)] at hbg
      refine C.skip $ X.outN $ X.join3 len dist n (Sub.cons rfl $ Sub.cons rfl $ S1 rfl) rfl ⟨hM, hn, hle, hdi, hbg⟩
    rintro len dist n w2 ⟨hM, hn, hle, hdi, hbg⟩
    refine C.region $ Km rfl $ E.sub' rfl rfl (by omega) rfl $ Kn rfl $ E.nil $ X.again4 q len dist n (Sub.cons rfl $ Sub.cons rfl $ Sub.cons rfl $ S1 rfl) rfl ⟨hM, hn, by omega, hle, hdi, hbg⟩ (by omega)
  have hfin : Df.bst l a = (len, dist) := by
    rw [← hbg]
    by_cases h32 : n < 32
    · obtain rfl : j = 0 := by omega
      rfl
    exact Df.bgo_full (by omega) j
  refine Kx $ Kb $ Kf rfl $ Kn rfl $ Kc rfl $ C.ret $ ret2 rfl rfl rfl ?_
  exact ⟨by rw [hfin], hM.toExt⟩
set_option maxHeartbeats 1000000 in
theorem rMatches_ret (p : Value) (l : List UInt8) (w : World) (hp : RdL u8 w p l) (hl : l.length ≤ 32768) :
  Ret Tryz.prog 72 #[p] w fun v w' => ∃ vt, v = .tuple #[vt, i64 0] ∧ M w Nn w' [Rg.sl i64 3 vt (nz (Df.toks l 0))] := by
 have hM := M.start w
 refine enter Tryz.func72 rfl (by kernel_rfl) Tryz.ntmps72 rfl $ Kb $ Kn rfl $ Kc rfl $ C.seq $ Kb $ Km rfl $ E.lenv rfl (Rd.shape (hM.arg0 hp)) U22 rfl $ Kp rfl $ Ka $ C.cond' rfl (fun hC0 => ?_) (fun hC0 => ?_)
 ·
  omega
 refine Kk $ Kb $ Kd rfl $ Kc rfl $ C.seq $ C.block $ ?_
 have hM := hM.nil i64 3
 refine C.loop3 [(0, _)] rfl (fun (a : Nat) (ts : (List Nat)) (vt : Value) => [(4, vt), (5, i64 a)]) (fun (a : Nat) (ts : (List Nat)) (vt : Value) w' => M w (Nn) w' [Rg.sl i64 3 vt (nz ts)] ∧ a ≤ l.length ∧ Df.toks l 0 = ts ++ Df.toks l a ∧ ts.length ≤ a) (fun (a : Nat) (ts : (List Nat)) (vt : Value) => l.length - a) 0 [] (.slice none 0 0) ?_ ?_ ?_
 · exact Sub.cons rfl $ S1 rfl
 · exact ⟨hM, Nat.zero_le _, rfl, Nat.le_refl _⟩
 rintro a ts vt w0 ⟨hM, ha, htk, htl⟩
 refine C.seq $ Kb $ Kf rfl $ E.lenv rfl (Rd.shape (hM.arg0 hp)) U22 rfl $ Kp rfl $ Ka $ C.cond' rfl (fun hC1 => ?_) (fun hC1 => ?_)
 ·
  have ha' : a < l.length := by omega
  obtain ⟨gb1, gb2, gb3⟩ := Df.bst_bd ha'
  have hnl := nz_len ts
  refine Kk $ C.block $ Kb $ Kf rfl $ E.call rfl rfl (rbest_ret p l a _ (hM.arg0 hp) ha' hl) ?_
  rintro _ w4 ⟨rfl, x4⟩
  have hM := hM.ext x4
  refine Km rfl $ E.ext rfl rfl rfl $ E.ext rfl rfl rfl $ Kn rfl $ Kd rfl $ Km rfl $ Kp rfl $ Ka $ C.cond' rfl (fun hC2 => ?_) (fun hC2 => ?_)
  ·
   have h0 : (Df.bst l a).1 = 0 := by omega
   have hb8 := l[a].toNat_lt
   rw [Df.toks_lit ha' h0, gdU ha'] at htk
   refine Kb $ Kf rfl $ Km rfl $ E.get (k := a) rfl rfl (hM.arg0 hp) rfl (by omega) U22 (by kernel_rfl) U5 rfl rfl rfl $ E.conv rfl U5 U3 (IntWalk.i64_in _ (by omega)) rfl $ E.pushM (enc := i64) 0 (l[a].toNat : Int) hM rfl rfl rfl U76 elem_Tint rfl (by omega) (by omega) (by simp) rfl rfl ?_
   intro v30 u30 w2 hM
   rw [nz_snoc] at hM
   refine Kc rfl $ C.region $ Km rfl $ E.addN (a := a) (b := 1) rfl rfl (by omega) rfl $ Kn rfl $ E.nil $ X.outN $ X.again3 (a + 1) (ts ++ [l[a].toNat]) v30 (Sub.cons rfl $ S1 rfl) rfl ⟨hM, by omega, by rw [htk, List.append_assoc]; rfl, by rw [List.length_append, List.length_singleton]; omega⟩ (by omega)
  have h0 : ¬ (Df.bst l a).1 = 0 := by omega
  rw [Df.toks_mat ha' h0] at htk
  refine Kb $ Kf rfl $ E.mulN (a := (Df.bst l a).1) (b := 65536) rfl rfl (by omega) rfl $ Km rfl $ E.addN (a := (Df.bst l a).1 * 65536) (b := (Df.bst l a).2) rfl rfl (by omega) rfl $ E.pushM (enc := i64) 0 (((Df.bst l a).1 * 65536 + (Df.bst l a).2 : Nat) : Int) hM rfl rfl rfl U76 elem_Tint rfl (by omega) (by omega) (by simp) rfl rfl ?_
  intro v39 u39 w3 hM
  rw [nz_snoc] at hM
  refine Kc rfl $ C.region $ Kf rfl $ E.addN (a := a) (b := (Df.bst l a).1) rfl rfl (by omega) rfl $ Kn rfl $ E.nil $ X.outN $ X.again3 (a + (Df.bst l a).1) (ts ++ [(Df.bst l a).1 * 65536 + (Df.bst l a).2]) v39 (Sub.cons rfl $ S1 rfl) rfl ⟨hM, gb3, by rw [htk, List.append_assoc]; rfl, by rw [List.length_append, List.length_singleton]; omega⟩ (by omega)
 rw [Df.toks_end (show l.length ≤ a by omega), List.append_nil] at htk
 refine Kx $ Kb $ Km rfl $ Kn rfl $ Kc rfl $ C.ret $ ret2 rfl rfl rfl ?_
 exact ⟨vt, rfl, by rw [htk]; exact hM⟩
end Go.Proofs.YtajklleiifhipaaGreatDoor
namespace Go.Proofs.YtajklleiifhipaaGreatDoor
open Go.RowKit Sym
namespace Df
theorem low_16 (c : Nat) : low c 16 = low c 8 ++ low (c / 256) 8 := by
 have h : ∀ j, bit c (8 + j) = bit (c / 256) j := fun j => by
  unfold bit; rw [Nat.pow_add, ← Nat.div_div_eq_div_mul]
 have e : low c 16 = low c 8 ++ [bit c (8 + 0), bit c (8 + 1), bit c (8 + 2), bit c (8 + 3), bit c (8 + 4), bit c (8 + 5), bit c (8 + 6), bit c (8 + 7)] := rfl
 rw [e]; simp only [h]; rfl
theorem ofNat_mod {a b : Nat} (h : a % 256 = b % 256) : UInt8.ofNat a = UInt8.ofNat b := by
 apply UInt8.toNat_inj.1
 simp; exact h
theorem pk_byte {B : List Bool} {c : Nat} (h : B.length % 8 = 0) : pk (B ++ low c 8) = pk B ++ [UInt8.ofNat c] := by
  unfold pk
  rw [List.length_append, low_len, show (B.length + 8 + 7) / 8 = (B.length + 7) / 8 + 1 by omega, tab_succ]
  have hq : (B.length + 7) / 8 = B.length / 8 := by omega
  rw [hq]
  congr 1
  · refine tab_congr fun k hk => ?_
    congr 1
    unfold pb
    refine bv_congr fun i hi => ?_
    rw [List.getD_eq_getElem?_getD, List.getElem?_append_left (by omega), ← List.getD_eq_getElem?_getD]
  congr 1
  refine ofNat_mod ?_
  have : pb (B ++ low c 8) (B.length / 8) = bv (bit c) 8 := by
    unfold pb
    refine bv_congr fun i hi => ?_
    rw [List.getD_eq_getElem?_getD, List.getElem?_append_right (by omega), show 8 * (B.length / 8) + i - B.length = i by omega]
    unfold low
    rw [tab_get hi]; rfl
  rw [this, bv_bit]; omega
theorem pk_sto {n : Nat} (h : n ≤ 65535) : pk (low 1 8 ++ low n 16 ++ low (65535 - n) 16) = [1, UInt8.ofNat n, UInt8.ofNat (n / 256), UInt8.ofNat (255 - n % 256), UInt8.ofNat (255 - n / 256 % 256)] := by
 have e1 : pk (low 1 8) = [1] := by decide +kernel
 rw [low_16, low_16, ← List.append_assoc, ← List.append_assoc, pk_byte (by simp only [List.length_append, low_len]), pk_byte (by simp only [List.length_append, low_len]), pk_byte (by simp only [List.length_append, low_len]), pk_byte (by simp only [low_len]), e1, ofNat_mod (show (65535 - n) % 256 = (255 - n % 256) % 256 by omega), ofNat_mod (show ((65535 - n) / 256) % 256 = (255 - n / 256 % 256) % 256 by omega)]
 rfl
theorem pk_18 : pk (low 1 3) = pk (low 1 8) := by decide +kernel
end Df
theorem fr8 {B : List Bool} (h : B.length % 8 = 0) : (0 : Int) = fr B := by unfold fr; omega
set_option maxHeartbeats 2000000 in
set_option maxRecDepth 4000 in
theorem rwstored_ret (b : Nat) (vo p : Value) (l : List UInt8) (w : World) (hs : Sep w [Rg.blk b 93 [vo, i64 (fr [])], Rg.sl u8 5 vo (Df.pk [])]) (hp : RdL u8 w p l) (ho : Off (fpU [Rg.blk b 93 [vo, i64 (fr [])], Rg.sl u8 5 vo (Df.pk [])]) p l) (hl : l.length ≤ 65535) :
  Ret Tryz.prog 71 #[pv b, p] w fun v w' => ∃ vn, M w (fpU [Rg.blk b 93 [vo, i64 (fr [])], Rg.sl u8 5 vo (Df.pk [])]) w' [Rg.blk b 93 [vn, i64 0], Rg.sl u8 5 vn (Df.sto l)] := by
 have hM := M.startS hs
 refine enter Tryz.func71 rfl (by kernel_rfl) Tryz.ntmps71 rfl $ C.block $ C.loop1 [(0, _)] rfl (fun (z : Nat) => [(1, p)]) (fun (z : Nat) w' => M w (fpU [Rg.blk b 93 [vo, i64 (fr [])], Rg.sl u8 5 vo (Df.pk [])]) w' [Rg.blk b 93 [vo, i64 (fr [])], Rg.sl u8 5 vo (Df.pk [])]) (fun (z : Nat) => z) 0 ?_ ?_ ?_
 · exact S1 rfl
 · exact hM
 rintro z w0 hM
 refine C.block $ Kb $ Km rfl $ E.lenv rfl (Rd.shape (hM.arg hp ho)) U22 rfl $ E.min2 rfl rfl rfl ?_
 rw [show min (l.length : Int) 65535 = (l.length : Int) by omega]
 refine Kd rfl $ Kc rfl $ C.cut0 [(0, _), (1, _), (4, _)] rfl [(5, i64 ((1 : Nat) : Int))] (fun w' => M w (fpU [Rg.blk b 93 [vo, i64 (fr [])], Rg.sl u8 5 vo (Df.pk [])]) w' [Rg.blk b 93 [vo, i64 (fr [])], Rg.sl u8 5 vo (Df.pk [])]) ?_ ?_
 ·
  refine Kb $ Kf rfl $ E.lenv rfl (Rd.shape (hM.arg hp ho)) U22 rfl $ Kp rfl $ Ka $ C.cond' rfl (fun hC0 => ?_) (fun hC0 => ?_)
  ·
   refine C.region $ Kn rfl $ E.nil $ X.join0  (S1 rfl) rfl hM
  exact (hC0 rfl).elim
 rintro  w1 hM
 refine Kb $ Kf rfl $ E.call rfl rfl (rbits_ret b vo [] 1 3 _ (hM.pick [0, 1] (by decide)).sep (by omega) (by decide) (by simp)) ?_
 rintro _ w2 ⟨vn2, m⟩
 have hM := hM.calls [0, 1] (by decide) rfl (by simp) m
 try dsimp only [Za, Zb, Zc, Zd, repl] at hM
 try dsimp only [Za, Zb, Zc, Zd, repl] at hM
 refine Ke $ Km rfl $ E.nilc rfl rfl $ E.fld (o := 1) (sz := 0) rfl U93 rfl rfl (by kernel_rfl) rfl $ E.storeM 0 hM rfl rfl rfl (by kernel_rfl) rfl rfl ?_
 intro w3 hM
 try dsimp only [Za, Zb, Zc, Zd, repl] at hM
 have hM : M w (fpU [Rg.blk b 93 [vo, i64 (fr [])], Rg.sl u8 5 vo (Df.pk [])]) _ [Rg.blk b 93 [vn2, i64 (fr (Df.low 1 8))], Rg.sl u8 5 vn2 (Df.pk (Df.low 1 8))] := hM.to (by rw [Df.pk_18, ← fr8 (B := Df.low 1 8) (by rw [Df.low_len])])
 refine Ke $ Kf rfl $ E.call rfl rfl (rbits_ret b vn2 _ l.length 16 _ (hM.pick [0, 1] (by decide)).sep (by omega) (by decide) (by rw [Df.low_len]; omega)) ?_
 rintro _ w3 ⟨vn3, m⟩
 have hM := hM.calls [0, 1] (by decide) rfl (by simp) m
 try dsimp only [Za, Zb, Zc, Zd, repl] at hM
 try dsimp only [Za, Zb, Zc, Zd, repl] at hM
 refine Ke $ Kf rfl $ E.subN (a := 65535) (b := l.length) rfl rfl (by omega) rfl $ E.call rfl rfl (rbits_ret b vn3 _ (65535 - l.length) 16 _ (hM.pick [0, 1] (by decide)).sep (by omega) (by decide) (by simp only [List.length_append, Df.low_len]; omega)) ?_
 rintro _ w4 ⟨vn4, m⟩
 have hM := hM.calls [0, 1] (by decide) rfl (by simp) m
 try dsimp only [Za, Zb, Zc, Zd, repl] at hM
 try dsimp only [Za, Zb, Zc, Zd, repl] at hM
 refine Ka $ C.seq $ C.heldXD (Sh := fun w' => ∃ (vx : Value), M w (fpU [Rg.blk b 93 [vo, i64 (fr [])], Rg.sl u8 5 vo (Df.pk [])]) w' [Rg.blk b 93 [vx, i64 (fr (Df.low 1 8 ++ Df.low l.length 16 ++ Df.low (65535 - l.length) 16))]]) hM (by kernel_rfl) fun wh6 hM => ?_
 have hS : ∃ (vx : Value), M w (fpU [Rg.blk b 93 [vo, i64 (fr [])], Rg.sl u8 5 vo (Df.pk [])]) wh6 [Rg.blk b 93 [vx, i64 (fr (Df.low 1 8 ++ Df.low l.length 16 ++ Df.low (65535 - l.length) 16))]] := ⟨_, hM.pick [0] (by decide)⟩
 refine Kt 0 rfl (by kernel_rfl) hS (fun w' ⟨vx, hM⟩ => Y.mv rfl) rfl $ Kt 1 rfl (by kernel_rfl) hS (fun w' ⟨vx, hM⟩ => Y.mv rfl) rfl $ Kt 2 rfl (by kernel_rfl) hS (fun w' ⟨vx, hM⟩ => Y.nilc rfl) rfl $ Ku 3 rfl (by kernel_rfl) hS (Y.fld (o := 0) (sz := 0) rfl U93 rfl rfl (by kernel_rfl)) (fun w' ⟨vx, hM⟩ => Y.fld (o := 0) (sz := 0) rfl U93 rfl rfl (by kernel_rfl)) rfl $ Kt 5 rfl (by kernel_rfl) hS (fun w' ⟨vx, hM⟩ => Y.mv rfl) rfl $ Kt 6 rfl (by kernel_rfl) hS (fun w' ⟨vx, hM⟩ => Y.mv rfl) rfl $ Ku 7 rfl (by kernel_rfl) hS (Y.slcP (k := .i64) 0 l.length rfl (.inr ⟨rfl, rfl⟩) (.inl rfl) (hM.arg hp ho) U22 (by kernel_rfl) (by omega) (by omega)) (fun w' ⟨vx, hM⟩ => Y.slcP (k := .i64) 0 l.length rfl (.inr ⟨rfl, rfl⟩) (.inl rfl) (hM.arg hp ho) U22 (by kernel_rfl) (by omega) (by omega)) rfl ?_
 have hc := (hM.arg hp ho).partV (a := 0) (b := l.length) (by omega) (by omega)
 rw [show cutL 0 l.length l = l by unfold cutL; rw [List.drop_zero, Nat.sub_zero, List.take_length]] at hc
 have hpl := Df.pk_len (Df.low 1 8 ++ Df.low l.length 16 ++ Df.low (65535 - l.length) 16)
 simp only [List.length_append, Df.low_len] at hpl
 refine H.only 4 rfl (by kernel_rfl) $ E.load rfl U22 rfl (hM.bcell 0 rfl rfl) rfl ?_
 have hS : ∃ (vx : Value), M w (fpU [Rg.blk b 93 [vo, i64 (fr [])], Rg.sl u8 5 vo (Df.pk [])]) _ [Rg.blk b 93 [vx, i64 (fr (Df.low 1 8 ++ Df.low l.length 16 ++ Df.low (65535 - l.length) 16))]] := ⟨_, hM.pick [0] (by decide)⟩
 refine H.back hS $ H.only 8 rfl (by kernel_rfl) $ E.appendM 1 hM rfl rfl rfl U22 elem_Tuint8 hc (fun _ => rfl) (by omega) (by omega) rfl ?_
 intro v34 w7 hM
 try dsimp only [Za, Zb, Zc, Zd, repl] at hM
 have hS : ∃ (vx : Value), M w (fpU [Rg.blk b 93 [vo, i64 (fr [])], Rg.sl u8 5 vo (Df.pk [])]) _ [Rg.blk b 93 [vx, i64 (fr (Df.low 1 8 ++ Df.low l.length 16 ++ Df.low (65535 - l.length) 16))]] := ⟨_, hM.pick [0] (by decide)⟩
 refine H.back hS $ Kt 9 rfl (by kernel_rfl) hS (fun w' ⟨vx, hM⟩ => Y.nilc rfl) rfl $ Ku 10 rfl (by kernel_rfl) hS (Y.fld (o := 0) (sz := 0) rfl U93 rfl rfl (by kernel_rfl)) (fun w' ⟨vx, hM⟩ => Y.fld (o := 0) (sz := 0) rfl U93 rfl rfl (by kernel_rfl)) rfl $ H.only 11 rfl (by kernel_rfl) $ E.storeM 0 hM rfl rfl rfl (by kernel_rfl) (hM.sl 1 rfl).one rfl ?_
 intro w8 hM
 try dsimp only [Za, Zb, Zc, Zd, repl] at hM
 have hS : ∃ (vx : Value), M w (fpU [Rg.blk b 93 [vo, i64 (fr [])], Rg.sl u8 5 vo (Df.pk [])]) _ [Rg.blk b 93 [vx, i64 (fr (Df.low 1 8 ++ Df.low l.length 16 ++ Df.low (65535 - l.length) 16))]] := ⟨_, hM.pick [0] (by decide)⟩
 refine H.back hS $ H.done (by kernel_rfl) $ X.next $ Kb $ Km rfl $ E.nilc rfl rfl $ E.fld (o := 1) (sz := 0) rfl U93 rfl rfl (by kernel_rfl) rfl $ E.storeM 0 hM rfl rfl rfl (by kernel_rfl) rfl rfl ?_
 intro w9 hM
 try dsimp only [Za, Zb, Zc, Zd, repl] at hM
 refine Ke $ Kf rfl $ E.slcP (k' := .i64) l.length l.length rfl (.inl rfl) (.inr ⟨rfl, rfl⟩) (hM.arg hp ho) U22 (by kernel_rfl) (by omega) (by omega) rfl $ Kd rfl $ Km rfl $ E.lenv rfl (Rd.shape ((hM.arg hp ho).partV (a := l.length) (b := l.length) (by omega) (by omega))) U22 rfl ?_
 rw [show (cutL l.length l.length l).length = 0 by unfold cutL; rw [Nat.sub_self, List.take_zero]; rfl]
 refine Kp rfl $ Ka $ C.cond' rfl (fun hC1 => ?_) (fun hC1 => ?_)
 ·
  refine C.ret $ X.retB $ X.retT $ X.retB $ ret0 rfl ?_
  exact ⟨v34, hM.to (by rw [Df.pk_sto hl]; rfl)⟩
 exact (hC1 rfl).elim
set_option maxHeartbeats 2000000 in
set_option maxRecDepth 4000 in
theorem rCompress_ret (p : Value) (l : List UInt8) (x : Int) (w : World) (hp : RdL u8 w p l) (hl : l.length ≤ 32768) :
  Ret Tryz.prog 49 #[p, i64 x] w fun v w' => ∃ vo, v = .tuple #[vo, i64 (if x < 0 ∨ 2 < x then 3 else 0)] ∧ M w Nn w' [Rg.sl u8 5 vo (Df.cmv l x)] := by
 have hM := M.start w
 refine enter Tryz.func49 rfl (by kernel_rfl) Tryz.ntmps49 rfl $ Kb $ Kn rfl $ Kc rfl $ C.seq $ C.chainE [(0, _), (1, _)] rfl [(14, .bool (decide (x < 0 ∨ 2 < x)))] ?_ ?_
 ·
  refine C.region $ Km rfl $ Kp rfl $ Km rfl $ E.split 11 rfl (fun g11 => ?_) (fun g11 => ?_)
  ·
   try simp only [Ya, Yb, Yc, Yd, Ye, Yf] at g11
   refine Kq rfl $ Kq rfl $ Kr rfl $ E.nil $ X.join0 (Sub.cons (by exact leaf_t (by omega)) $ Sub.nil _) rfl rfl
  try simp only [Ya, Yb, Yc, Yd, Ye, Yf] at g11
  refine Ko rfl $ Km rfl $ Ko rfl $ Kp rfl $ Kr rfl $ E.nil $ X.join0 (Sub.cons (by exact leaf_d (by omega)) $ Sub.nil _) rfl rfl
 refine C.cond' rfl (fun hC0 => ?_) (fun hC0 => ?_)
 ·
  refine Kb $ Kn rfl $ Kc rfl $ C.ret $ X.retT $ ret2 rfl rfl rfl ?_
  exact ⟨_, by rw [if_pos hC0], by rw [Df.cmv, if_pos hC0]; exact hM.nil u8 5⟩
 refine Kk $ C.seq $ Kb $ Km rfl $ E.lenv rfl (Rd.shape (hM.arg0 hp)) U22 rfl $ Kp rfl $ Ka $ C.cond' rfl (fun hC1 => ?_) (fun hC1 => ?_)
 ·
  omega
 rw [if_neg hC0]
 obtain ⟨lv, rfl⟩ : ∃ lv : Nat, x = (lv : Int) := ⟨x.toNat, by omega⟩
 have hlv : lv ≤ 2 := by omega
 rw [show Df.cmv l lv = Df.cmp l lv by rw [Df.cmv, if_neg hC0, Int.toNat_natCast]]
 have htk := Df.toks_tok hl
 have htl := Df.toks_len l 0
 refine Kk $ Kb $ E.buildC (cs := [_, _]) [.slice none 0 0, .int .i64 0] [] rfl rfl (by kernel_rfl) rfl $ E.boxM hM rfl rfl rfl ?_
 intro b19 w0 hM
 have hM := hM.nil u8 5
 have hM : M w Nn _ [Rg.blk b19 93 [(.slice none 0 0), i64 (fr [])], Rg.sl u8 5 (.slice none 0 0) (Df.pk [])] := hM
 refine Kc rfl $ C.seq $ Kb $ Km rfl $ Kp rfl $ Ka $ C.cond' rfl (fun hC2 => ?_) (fun hC2 => ?_)
 ·
  obtain rfl : lv = 0 := by omega
  refine Kb $ Kf rfl $ E.call rfl rfl (rwstored_ret b19 _ p l _ (hM.pick [0, 1] (by decide)).sep (hM.arg0 hp) ((hM.pick [0, 1] (by decide)).off0 hp) (by omega)) ?_
  rintro _ w2 ⟨vn2, m⟩
  have hM := hM.calls [0, 1] (by decide) rfl (by simp) m
  refine Ke $ Km rfl $ E.nilc rfl rfl $ E.fld (o := 0) (sz := 0) rfl U93 rfl rfl (by kernel_rfl) rfl $ E.load rfl U22 rfl (hM.bcell 0 rfl rfl) rfl $ Kn rfl $ Kc rfl $ C.ret $ X.retT $ ret2 rfl rfl rfl ?_
  exact ⟨_, rfl, by rw [Df.cmp, if_pos rfl]; exact hM.pick [1] (by decide)⟩
 refine Kk $ Kb $ Km rfl $ E.call rfl rfl (rMatches_ret p l _ (hM.arg0 hp) hl) ?_
 rintro _ w3 ⟨vt, rfl, m⟩
 have hM := hM.call m
 refine Km rfl $ E.ext rfl rfl rfl $ E.ext rfl rfl rfl $ Kn rfl $ Kc rfl $ C.seq $ Kb $ Km rfl $ Kp rfl $ Ka $ C.cond' rfl (fun hC3 => ?_) (fun hC3 => ?_)
 ·
  obtain rfl : lv = 1 := by omega
  refine Kb $ Km rfl $ E.call rfl rfl (rbits_ret b19 _ [] 3 3 _ (hM.pick [0, 1] (by decide)).sep (by omega) (by decide) (by simp)) ?_
  rintro _ w4 ⟨vn4, m⟩
  have hM := hM.calls [0, 1] (by decide) rfl (by simp) m
  refine Ke $ Kf rfl $ E.call rfl rfl (rfixL_ret _) ?_
  rintro v40 w5 m
  have hM := hM.call m
  refine E.call rfl rfl (rfixD_ret _) ?_
  rintro v41 w6 m
  have hM := hM.call m
  refine E.call rfl rfl (rtokens_ret b19 vn4 v40 v41 vt _ Df.fixL Df.fixD (Df.toks l 0) _ (hM.pick [0, 1, 3, 4, 2] (by decide)).sep htk (by rw [Df.fix_len.1]; decide) (by rw [Df.fix_len.2]; decide) (by rw [Df.fix_len.1]; decide) (by rw [Df.fix_len.2]; decide) (fun n hn => Nat.le_trans (Df.fix_le.1 n hn) (by decide)) (fun n hn => Nat.le_trans (Df.fix_le.2 n hn) (by decide)) (by rw [Df.fix_kr.1]; decide) (by rw [Df.fix_kr.2]; decide) (by simp only [List.nil_append, Df.low_len]; omega)) ?_
  rintro _ w7 ⟨vn7, m⟩
  have hM := hM.calls [0, 1, 3, 4, 2] (by decide) rfl (by simp) m
  refine Ke $ Km rfl $ E.nilc rfl rfl $ E.fld (o := 0) (sz := 0) rfl U93 rfl rfl (by kernel_rfl) rfl $ E.load rfl U22 rfl (hM.bcell 0 rfl rfl) rfl $ Kn rfl $ Kc rfl $ C.ret $ X.retT $ ret2 rfl rfl rfl ?_
  exact ⟨_, rfl, (hM.pick [1] (by decide)).to (by rw [Df.cmp, if_neg (by decide), Df.cbits, Df.hdv, if_pos rfl, Df.blL, if_pos rfl, Df.blD, if_pos rfl, List.append_nil]; rfl)⟩
 obtain rfl : lv = 2 := by omega
 refine Kk $ Kb $ Kf rfl $ E.call rfl rfl (rwown_ret b19 _ vt [] (Df.toks l 0) _ (hM.pick [0, 1, 2] (by decide)).sep htk (by simp) (by omega)) ?_
 rintro _ w8 ⟨vn8, m⟩
 have hM := hM.calls [0, 1, 2] (by decide) rfl (by simp) m
 refine Ke $ Km rfl $ E.nilc rfl rfl $ E.fld (o := 0) (sz := 0) rfl U93 rfl rfl (by kernel_rfl) rfl $ E.load rfl U22 rfl (hM.bcell 0 rfl rfl) rfl $ Kn rfl $ Kc rfl $ C.ret $ ret2 rfl rfl rfl ?_
 exact ⟨_, rfl, (hM.pick [1] (by decide)).to (by rw [Df.cmp, if_neg (by decide), Df.cbits, Df.hdv, if_neg (by decide)]; rfl)⟩
end Go.Proofs.YtajklleiifhipaaGreatDoor
namespace Go.Proofs.YtajklleiifhipaaGreatDoor
open Go.RowKit Sym
open Pg
namespace Pg
theorem at_ge {l : List UInt8} {i : Nat} (h : l.length ≤ i) : at_ l i = 0 := by unfold at_; rw [List.getD_eq_getElem?_getD, List.getElem?_eq_none h]; rfl
theorem pb_ext {row : List UInt8} {i m : Nat} (h : row.length ≤ 8 * i + m) : ∀ k, pb row i (m + k) = pb row i m
 | 0 => rfl
 | k + 1 => by rw [← Nat.add_assoc, pb, pb_ext h k, if_neg (Decidable.not_not.2 (at_ge (by omega))), Nat.add_zero]
def pkf (row : List UInt8) (i : Nat) : UInt8 := UInt8.ofNat (pb row i (min 8 (row.length - 8 * i)))
theorem vb8 (row : List UInt8) (i : Nat) : UInt8.ofNat (vb row i 8) = pkf row i := by
 have h1 := pb_vb row i 8 (by omega)
 rw [show 8 - 8 = 0 from rfl, Nat.pow_zero, Nat.mul_one] at h1
 unfold pkf
 by_cases h : 8 ≤ row.length - 8 * i
 · rw [Nat.min_eq_left h, h1]
 have h2 := pb_ext (row := row) (i := i) (m := row.length - 8 * i) (by omega) (8 - (row.length - 8 * i))
 rw [show row.length - 8 * i + (8 - (row.length - 8 * i)) = 8 by omega] at h2
 rw [Nat.min_eq_right (by omega), ← h1, h2]
end Pg
theorem adl_lt (l : List UInt8) : Adler.sum l < 4294967296 := by have := Adler.sums_lt l; unfold Adler.sum; omega
theorem q35Adler_ret (p : Value) (l : List UInt8) (w : World) (hp : RdL u8 w p l) :
  Ret Tryz.prog 51 #[p] w fun v w' => v = w32 (Adler.sum l) ∧ Ext w w' := (rAdler32_ret p l w hp).mono fun v w' ⟨h, e⟩ => ⟨h, e ▸ Ext.refl w⟩
theorem q35Comp_ret (p : Value) (l : List UInt8) (w : World) (hp : RdL u8 w p l) (hl : l.length ≤ 32768) :
  Ret Tryz.prog 49 #[p, i64 2] w fun v w' => ∃ vo, v = .tuple #[vo, i64 0] ∧ M w Nn w' [Rg.sl u8 5 vo (Df.cmp l 2)] :=
 (rCompress_ret p l 2 w hp hl).mono fun v w' ⟨vo, h, m⟩ => ⟨vo, by rw [h, if_neg (by omega)], by rw [Df.cmv, if_neg (by omega)] at m; exact m⟩
set_option maxHeartbeats 1000000 in
theorem packed35_ret (p : Value) (row : List UInt8) (d : Nat) (w : World) (hp : RdL u8 w p row) (hd : d = 8 ∨ ∀ x ∈ row, x = 0 ∨ x = 255) (hl : row.length ≤ 1000000) :
  Ret Tryz.prog 21 #[p, i64 d] w fun v w' => M w Nn w' [Rg.sl u8 5 v (pck row d)] := by
 have hM := M.start w
 refine enter Tryz.func21 rfl (by kernel_rfl) Tryz.ntmps21 rfl $ Kb $ Kd rfl $ Kc rfl $ C.seq $ Kb $ Km rfl $ Kp rfl $ Ka $ C.cond' rfl (fun hC0 => ?_) (fun hC0 => ?_)
 ·
  have hM := hM.nil u8 5
  try dsimp only [List.nil_append, List.cons_append] at hM
  refine Kb $ Kf rfl $ E.appendM 0 hM rfl rfl rfl U22 elem_Tuint8 (hM.arg0 hp) (fun _ => rfl) (by simp; omega) (by simp; omega) rfl ?_
  intro v13 w0 hM
  refine Kc rfl $ C.ret $ X.retT $ ret1 rfl rfl ?_
  exact by rw [pck, if_pos (by omega)]; exact hM
 have hrow := hd.resolve_left (by omega)
 have hM := hM.nil u8 5
 try dsimp only [List.nil_append, List.cons_append] at hM
 refine Kk $ C.seq $ Kb $ Kc rfl $ C.block $ C.loop2 [(0, _)] rfl (fun (j : Nat) (vp : Value) => [(5, vp), (6, i64 (8 * j : Nat))]) (fun (j : Nat) (vp : Value) w' => M w (Nn) w' [Rg.sl u8 5 vp (tab j (pkf row))] ∧ j ≤ (row.length + 7) / 8) (fun (j : Nat) (vp : Value) => (row.length + 7) / 8 - j) 0 nilS ?_ ?_ ?_
 · exact Sub.cons rfl $ S1 rfl
 · exact ⟨hM, Nat.zero_le _⟩
 rintro j vp w1 ⟨hM, hj⟩
 refine C.seq $ Kb $ Kf rfl $ E.lenv rfl (Rd.shape (hM.arg0 hp)) U22 rfl $ Kp rfl $ Ka $ C.cond' rfl (fun hC1 => ?_) (fun hC1 => ?_)
 ·
  have hj' : 8 * j < row.length := by omega
  have htl := tab_len j (pkf row)
  refine Kk $ C.seq $ C.block $ Kb $ Kc rfl $ C.seq $ Kb $ Km rfl $ Kc rfl $ C.block $ C.loop1 [(0, _), (5, _), (6, _)] rfl (fun (t : Nat) => [(7, i64 (vb row j t : Int)), (8, i64 (8 * j + t : Nat))]) (fun (t : Nat) w' => M w (Nn) w' [Rg.sl u8 5 vp (tab j (pkf row))] ∧ t ≤ 8) (fun (t : Nat) => 8 - t) 0 ?_ ?_ ?_
  · exact Sub.cons rfl $ S1 rfl
  · exact ⟨hM, by omega⟩
  rintro t w2 ⟨hM, ht⟩
  refine C.seq $ Kb $ Kf rfl $ E.add rfl rfl (by omega) rfl $ Kp rfl $ Ka $ C.cond' rfl (fun hC2 => ?_) (fun hC2 => ?_)
  ·
   have ht' : t < 8 := by omega
   have hvl := vb_lt row j t
   have h2t : 2 ^ t ≤ 2 ^ 8 := Nat.pow_le_pow_right (by decide) ht
   refine Kk $ C.cut0 [(0, _), (5, _), (6, _), (8, _)] rfl [(7, i64 (vb row j (t + 1) : Int))] (fun w' => M w (Nn) w' [Rg.sl u8 5 vp (tab j (pkf row))]) ?_ ?_
   ·
    refine C.block $ Kb $ Km rfl $ E.mul rfl rfl (by omega) rfl $ Kc rfl $ C.chainE [(0, _), (5, _), (6, _), (7, _), (8, _)] rfl [(39, .bool (decide (at_ row (8 * j + t) ≠ 0)))] ?_ ?_
    ·
     refine C.region $ Kf rfl $ E.lenv rfl (Rd.shape (hM.arg0 hp)) U22 rfl $ Kp rfl $ Km rfl $ E.split 33 rfl (fun g33 => ?_) (fun g33 => ?_)
     ·
      try simp only [Ya, Yb, Yc, Yd, Ye, Yf] at g33
      have hk' : 8 * j + t < row.length := by omega
      have hat := at_get hk'
      have hv := hrow _ (List.getElem_mem hk')
      have hvn : (row[8 * j + t]).toNat = 0 ∨ (row[8 * j + t]).toNat = 255 := hv.imp (fun h => by rw [h]; rfl) (fun h => by rw [h]; rfl)
      refine Ko rfl $ Km rfl $ Ko rfl $ Km rfl $ Ko rfl $ E.idx1 (k := 8 * j + t) rfl rfl (hM.arg0 hp) rfl hk' U22 (by kernel_rfl) rfl $ Ko rfl $ E.load rfl U5 rfl (RdL.cellA (l := row) (j := 8 * j + t) (hM.arg0 hp) rfl hk') rfl ?_
      rw [u8c]
      refine Ko rfl $ Kp rfl $ Kr rfl $ E.nil $ X.join0 (Sub.cons (look_eq rfl (congrArg Value.bool (by exact decide_eq_decide.2 ⟨fun h => by omega, fun h => by omega⟩))) $ Sub.nil _) rfl rfl
     try simp only [Ya, Yb, Yc, Yd, Ye, Yf] at g33
     have hz := at_ge (l := row) (i := 8 * j + t) (by omega)
     refine Kq rfl $ Kq rfl $ Kq rfl $ Kq rfl $ Kq rfl $ Kr rfl $ E.nil $ X.join0 (Sub.cons (look_eq rfl (congrArg Value.bool (by exact (decide_eq_false (p := at_ row (8 * j + t) ≠ 0) (by omega)).symm))) $ Sub.nil _) rfl rfl
    refine C.cond' rfl (fun hC3 => ?_) (fun hC3 => ?_)
    ·
     refine C.region $ Km rfl $ E.add rfl rfl (by omega) rfl $ Kn rfl $ E.nil $ X.outN $ X.join0  (Sub.cons (look_val rfl (by rw [vb, bitR, if_pos hC3]; omega)) $ Sub.nil _) rfl hM
    refine C.skip $ X.outN $ X.join0  (Sub.cons (look_val rfl (by rw [vb, bitR, if_neg hC3]; omega)) $ Sub.nil _) rfl hM
   rintro  w3 hM
   refine C.region $ Km rfl $ E.add rfl rfl (by omega) rfl $ Kn rfl $ E.nil $ X.again1 (t + 1) (Sub.cons rfl $ S1 rfl) rfl ⟨hM, by omega⟩ (by omega)
  obtain rfl : t = 8 := by omega
  refine Kx $ C.region $ Kf rfl $ E.conv rfl U3 U5 (c := ((UInt8.ofNat (vb row j 8)).toNat : Int)) (wrap8 _) rfl $ E.pushM 0 (UInt8.ofNat (vb row j 8)) hM rfl rfl rfl U22 elem_Tuint8 rfl (by omega) (by omega) (by simp) rfl rfl ?_
  intro v46 u46 w4 hM
  refine Kn rfl $ E.nil $ X.outN $ X.next $ C.region $ Km rfl $ E.add rfl rfl (by omega) rfl $ Kn rfl $ E.nil $ ?_
  rw [vb8, ← tab_succ] at hM
  refine X.again2 (j + 1) _ (Sub.cons rfl $ S1 rfl) rfl ⟨hM.pick [0] (by decide), by omega⟩ (by omega)
 obtain rfl : j = (row.length + 7) / 8 := by omega
 refine Kx $ Kb $ Km rfl $ Kc rfl $ C.ret $ ret1 rfl rfl ?_
 exact by rw [pck, if_neg (by omega)]; exact hM
theorem cost35_ret (p : Value) (l : List UInt8) (w : World) (hp : RdL u8 w p l) (hl : l.length ≤ 1000000) :
  Ret Tryz.prog 23 #[p] w fun v w' => v = i64 (wgt l : Int) ∧ Ext w w' := by
 have hM := M.start w
 refine enter Tryz.func23 rfl (by kernel_rfl) Tryz.ntmps23 rfl $ Kb $ Kd rfl $ Kc rfl $ C.seq $ Kb $ Kc rfl $ C.block $ C.loop1 [(0, _)] rfl (fun (k : Nat) => [(3, i64 (wgt (l.take k) : Int)), (4, i64 k)]) (fun (k : Nat) w' => M w (Nn) w' [] ∧ k ≤ l.length) (fun (k : Nat) => l.length - k) 0 ?_ ?_ ?_
 · exact Sub.cons rfl $ S1 rfl
 · exact ⟨hM, Nat.zero_le _⟩
 rintro k w0 ⟨hM, hk⟩
 refine C.seq $ Kb $ Kf rfl $ E.lenv rfl (Rd.shape (hM.arg0 hp)) U22 rfl $ Kp rfl $ Ka $ C.cond' rfl (fun hC0 => ?_) (fun hC0 => ?_)
 ·
  have hk' : k < l.length := by omega
  have hwl := wgt_le (l.take k)
  rw [List.length_take] at hwl
  have hws := wgt_succ hk'
  have hlt := UInt8.toNat_lt l[k]
  refine Kk $ C.seq $ C.block $ C.drawn (by kernel_rfl) (by kernel_rfl) $ Q.mv rfl rfl $ Q.mv rfl rfl $ Q.mv rfl rfl $ Q.idx1 (k := k) rfl rfl (hM.arg0 hp) rfl hk' U22 (by kernel_rfl) rfl $ Q.load rfl U5 rfl (RdL.cellA (l := l) (j := k) (hM.arg0 hp) rfl hk') rfl ?_
  rw [u8c]
  refine Q.conv rfl U5 U3 (IntWalk.i64_in _ (by omega)) rfl $ Q.mv rfl rfl $ Q.mv rfl rfl $ Q.idx1 (k := k) rfl rfl (hM.arg0 hp) rfl hk' U22 (by kernel_rfl) rfl $ Q.load rfl U5 rfl (RdL.cellA (l := l) (j := k) (hM.arg0 hp) rfl hk') rfl ?_
  rw [u8c]
  refine Q.conv rfl U5 U3 (IntWalk.i64_in _ (by omega)) rfl $ Q.sub' rfl rfl (by omega) rfl $ Q.min2 rfl rfl rfl $ Q.add rfl rfl (by omega) rfl $ Q.asg rfl rfl $ Q.nil $ fun w1 hx1 => ?_
  have hM := hM.ext hx1
  refine X.outN $ X.next $ C.region $ Km rfl $ E.add rfl rfl (by omega) rfl $ Kn rfl $ E.nil $ X.again1 (k + 1) (Sub.cons (look_val rfl (by rw [hws]; omega)) $ S1 rfl) rfl ⟨hM, by omega⟩ (by omega)
 obtain rfl : k = l.length := by omega
 rw [List.take_length]
 refine Kx $ Kb $ Km rfl $ Kc rfl $ C.ret $ ret1 rfl rfl ?_
 exact ⟨rfl, hM.toExt⟩
theorem four34_ret (n : Nat) (w : World) (hn : n < 4294967296) :
  Ret Tryz.prog 50 #[.int .u32 (n : Int)] w fun v w' => M w Nn w' [Rg.sl u8 5 v [UInt8.ofNat (n / 16777216), UInt8.ofNat (n / 65536), UInt8.ofNat (n / 256), UInt8.ofNat n]] := by
 have hM := M.start w
 refine enter Tryz.func50 rfl (by kernel_rfl) Tryz.ntmps50 rfl $ Kb $ Kd rfl $ Km rfl $ E.quo (c := ((n / 16777216 : Nat) : Int)) rfl rfl (by omega) (by rw [Int.tdiv_eq_ediv_of_nonneg (by omega)]; exact (IntWalk.u32_in _ (by omega)).trans (by omega)) rfl $ E.conv rfl U58 U5 (c := ((UInt8.ofNat (n / 16777216)).toNat : Int)) (wrap8 _) rfl $ Km rfl $ E.quo (c := ((n / 65536 : Nat) : Int)) rfl rfl (by omega) (by rw [Int.tdiv_eq_ediv_of_nonneg (by omega)]; exact (IntWalk.u32_in _ (by omega)).trans (by omega)) rfl $ E.rem rfl rfl (by omega) (remN (a := n / 65536) (b := 256)) rfl $ E.conv rfl U58 U5 (c := ((UInt8.ofNat (n / 65536)).toNat : Int)) ((wrap8 (n / 65536 % 256)).trans (by simp)) rfl $ Km rfl $ E.quo (c := ((n / 256 : Nat) : Int)) rfl rfl (by omega) (by rw [Int.tdiv_eq_ediv_of_nonneg (by omega)]; exact (IntWalk.u32_in _ (by omega)).trans (by omega)) rfl $ E.rem rfl rfl (by omega) (remN (a := n / 256) (b := 256)) rfl $ E.conv rfl U58 U5 (c := ((UInt8.ofNat (n / 256)).toNat : Int)) ((wrap8 (n / 256 % 256)).trans (by simp)) rfl $ Km rfl $ E.rem rfl rfl (by omega) (remN (a := n) (b := 256)) rfl $ E.conv rfl U58 U5 (c := ((UInt8.ofNat (n)).toNat : Int)) ((wrap8 (n % 256)).trans (by simp)) rfl ?_
 refine E.mkM (enc := u8) (e := 5) [UInt8.ofNat (n / 16777216), UInt8.ofNat (n / 65536), UInt8.ofNat (n / 256), UInt8.ofNat n] hM rfl (fun _ => by kernel_rfl) rfl rfl rfl ?_
 intro v17 w0 hM
 refine Kc rfl $ C.ret $ ret1 rfl rfl ?_
 exact hM
set_option maxHeartbeats 1000000 in
theorem Wrap35_ret (p : Value) (l : List UInt8) (w : World) (hp : RdL u8 w p l) (hl : l.length ≤ 32768) :
  Ret Tryz.prog 24 #[p, i64 2] w fun v w' => ∃ vo, v = .tuple #[vo, i64 0] ∧ M w Nn w' [Rg.sl u8 5 vo (Df.wrv l 2)] := by
 have hM := M.start w
 refine enter Tryz.func24 rfl (by kernel_rfl) Tryz.ntmps24 rfl $ Kb $ Kn rfl $ Kd rfl $ Kf rfl $ E.call rfl rfl (q35Comp_ret p l _ (hM.arg0 hp) hl) ?_
 rintro _ w1 ⟨v12, rfl, m⟩
 have hM := hM.call m
 refine Km rfl $ E.ext rfl rfl rfl $ E.ext rfl rfl rfl $ Kn rfl $ Kc rfl $ C.seq $ Kb $ Km rfl $ Kp rfl $ Ka $ C.cond' rfl (fun hC0 => ?_) (fun hC0 => ?_)
 ·
  exact absurd rfl hC0
 have hcl := Df.cmp_len hl (lv := 2) (by omega)
 obtain ⟨Cm, hCm⟩ : ∃ Cm, Cm = Df.cmp l 2 := ⟨_, rfl⟩
 rw [← hCm] at hM hcl
 have hwv : Df.wrv l 2 = [120, 156] ++ Cm ++ Df.ad4 l := by rw [Df.wrv, if_neg (by omega), hCm]; rfl
 have had := adl_lt l
 refine Kk $ Kb $ E.mkM (enc := u8) (e := 5) [1, 94, 156] hM rfl (fun _ => by kernel_rfl) rfl rfl rfl ?_
 intro v18 w1 hM
 refine Km rfl $ E.get (k := 2) rfl rfl (hM.sl 1 rfl) rfl (by decide) U22 (by kernel_rfl) U5 rfl rfl rfl $ E.mkM (enc := u8) (e := 5) [120, 156] hM rfl (fun _ => by kernel_rfl) rfl rfl rfl ?_
 intro v22 w2 hM
 refine Km rfl $ E.appendM 2 hM rfl rfl rfl U22 elem_Tuint8 (hM.sl 0 rfl) (fun _ => rfl) (by simp only [List.length_append, List.length_cons, List.length_nil]; omega) (by simp only [List.length_append, List.length_cons, List.length_nil]; omega) rfl ?_
 intro v24 w3 hM
 refine Kd rfl $ Kf rfl $ E.call rfl rfl (q35Adler_ret p l _ (hM.arg0 hp)) ?_
 rintro _ w5 ⟨rfl, x5⟩
 have hM := hM.ext x5
 refine E.call rfl rfl (four34_ret (Adler.sum l) _ had) ?_
 rintro v28 w6 m6
 have hM := hM.call m6
 refine E.appendM 2 hM rfl rfl rfl U22 elem_Tuint8 (hM.sl 3 rfl) (fun _ => rfl) (by simp only [List.length_append, List.length_cons, List.length_nil]; omega) (by simp only [List.length_append, List.length_cons, List.length_nil]; omega) rfl ?_
 intro v29 w6 hM
 refine Kn rfl $ Kc rfl $ C.ret $ ret2 rfl rfl rfl ?_
 exact ⟨_, rfl, by rw [hwv]; exact hM.pick [2] (by decide)⟩
end Go.Proofs.YtajklleiifhipaaGreatDoor
