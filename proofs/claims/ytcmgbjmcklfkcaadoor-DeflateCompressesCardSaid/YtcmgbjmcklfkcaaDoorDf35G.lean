/- barscanref34: a block with codes of its own is written. -/
import Derived.Test.YtcmgbjmcklfkcaaDoorDf34G
import Derived.Test.YtcmgbjmcklfkcaaDoorG33
import Derived.Test.YtcmgbjmcklfkcaaDoorPf28G
namespace Go.Proofs.YtcmgbjmcklfkcaaDoor
set_option linter.unusedSimpArgs false
set_option linter.unusedVariables false
open Go.RowKit Sym

set_option maxHeartbeats 8000000 in
set_option maxRecDepth 8000 in
theorem rwown_ret (b : Nat) (vo vt : Value) (B : List Bool) (ts : List Nat) (w : World) (hs : Sep w [Rg.blk b 56 [vo, i64 (fr B)], Rg.sl u8 5 vo (Df.pk B), Rg.sl i64 3 vt (nz ts)]) (htk : ∀ t ∈ ts, Df.Tok t) (hl : B.length ≤ 1000) (htl0 : ts.length ≤ 100000) :
    Ret Tryd.prog 33 #[pv b, vt] w fun v w' => ∃ vn, M w (fpU [Rg.blk b 56 [vo, i64 (fr B)], Rg.sl u8 5 vo (Df.pk B), Rg.sl i64 3 vt (nz ts)]) w' [Rg.blk b 56 [vn, i64 (fr (B ++ Df.low 5 3 ++ Df.hdr (Df.blL 2 ts) (Df.blD 2 ts) ++ Df.tbs (Df.blL 2 ts) (Df.blD 2 ts) ts ++ btv (Pf.code (Df.blL 2 ts) 256) ((Df.blL 2 ts).getD 256 0)))], Rg.sl u8 5 vn (Df.pk (B ++ Df.low 5 3 ++ Df.hdr (Df.blL 2 ts) (Df.blD 2 ts) ++ Df.tbs (Df.blL 2 ts) (Df.blD 2 ts) ts ++ btv (Pf.code (Df.blL 2 ts) 256) ((Df.blL 2 ts).getD 256 0))), Rg.sl i64 3 vt (nz ts)] := by
  have hM := M.startS hs
  refine enter Tryd.func33 rfl (by kernel_rfl) Tryd.ntmps33 rfl ?_
  refine C.seq <| C.region <| E.mv rfl rfl <| ?_
  obtain ⟨ga, gb, hbL, hbD, hkL, hkD, gg, gh, gi⟩ := Df.bl_ok 2 (ts := ts) (by omega)
  obtain ⟨hL, hD⟩ := gi (by decide)
  obtain ⟨L, hLe⟩ : ∃ x, x = Df.blL 2 ts := ⟨_, rfl⟩
  obtain ⟨D, hDe⟩ : ∃ x, x = Df.blD 2 ts := ⟨_, rfl⟩
  rw [← hLe, ← hDe]
  rw [← hLe] at hbL hkL hL
  rw [← hDe] at hbD hkD hD
  have hLo : Df.oln (Df.fql ts) 15 = L := by rw [hLe, Df.blL, if_neg (by decide)]
  have hDo : Df.oln (Df.fqd ts) 15 = D := by rw [hDe, Df.blD, if_neg (by decide)]
  have hc1 := Df.ctn_le L 257
  have hc2 := Df.ctn_le D 1
  have hc3 := Df.ctn_ge (l := L) (least := 257) (by omega)
  have hc4 := Df.ctn_ge (l := D) (least := 1) (by omega)
  have hal := Df.allL_len hL hD
  have hst := Df.sq_ok (m := 15) (Df.allL_mem hbL hbD) 0
  have hsl := Df.sq_len (Df.allL L D) 0
  obtain ⟨st, hste⟩ : ∃ x, x = Df.sq (Df.allL L D) 0 := ⟨_, rfl⟩
  rw [← hste] at hst hsl
  obtain ⟨hlw, hll, hlp, _, _⟩ := Df.oln_law (fs := Df.frqS st) (m := 7) (by decide) (by decide) (fun n hn => by have := Df.frqS_bd st n hn; omega) (by rw [Df.frqS_len]; decide) (by rw [Df.frqS_len]; decide)
  obtain ⟨hcb, hck⟩ := Df.oln_ok (fs := Df.frqS st) (m := 7) (by decide) (by decide) (fun n hn => by have := Df.frqS_bd st n hn; omega) (by rw [Df.frqS_len]; decide) (by rw [Df.frqS_len]; decide)
  obtain ⟨c, hce⟩ : ∃ x, x = Df.oln (Df.frqS st) 7 := ⟨_, rfl⟩
  rw [← hce] at hlw hll hlp hcb hck
  rw [Df.frqS_len] at hll
  have hc30 : ∀ n ∈ c, n ≤ 30 := fun n hn => Nat.le_trans (hcb n hn) (by decide)
  have hhd : Df.hdr L D = Df.low (Df.ctn L 257 - 257) 5 ++ Df.low (Df.ctn D 1 - 1) 5 ++ Df.low (Df.ctn (Df.lst c) 4 - 4) 4 ++ Df.hdr3 c (Df.ctn (Df.lst c) 4) ++ st.flatMap (Df.sbits c) := by rw [hce, hste]; rfl
  have hk1 := Df.ctn_le (Df.lst c) 4
  have hk2 := Df.ctn_ge (l := Df.lst c) (least := 4) (by rw [Df.lst_len]; decide)
  rw [Df.lst_len] at hk1
  refine E.call rfl rfl (rcounts_ret vt ts _ (hM.sl 2 rfl) htk (by omega)) ?_
  rintro _ w1 ⟨vf, vg, rfl, m⟩
  have hM := hM.call m
  try dsimp only [List.nil_append, List.cons_append, List.set_cons_zero, List.set_cons_succ, repl] at hM
  try dsimp only [List.nil_append, List.cons_append, List.set_cons_zero, List.set_cons_succ, repl] at hM
  refine E.mv rfl rfl <| E.ext rfl rfl rfl <| E.ext rfl rfl rfl <| E.asg rfl rfl <| E.asg rfl rfl <| E.nil <| X.next <| C.seq <| C.region <| E.mv rfl rfl <| ?_
  refine E.call rfl rfl (rLengths_ret vf (nz (Df.fql ts)) 15 _ (hM.sl 3 rfl)) ?_
  rintro _ w2 ⟨v32, rfl, m⟩
  have hM := hM.call m
  try dsimp only [List.nil_append, List.cons_append, List.set_cons_zero, List.set_cons_succ, repl] at hM
  rw [show lnv (nz (Df.fql ts)) 15 = _ from (Df.oln_law (fs := Df.fql ts) (m := 15) (by decide) (by decide) (fun n hn => by have := Df.fql_bd ts n hn; omega) (by rw [Df.fql_len]; decide) (by rw [Df.fql_len]; decide)).1, hLo] at hM
  try dsimp only [List.nil_append, List.cons_append, List.set_cons_zero, List.set_cons_succ, repl] at hM
  refine E.mv rfl rfl <| E.ext rfl rfl rfl <| E.ext rfl rfl rfl <| E.asg rfl rfl <| E.asg rfl rfl <| E.nil <| X.next <| C.seq <| C.region <| E.mv rfl rfl <| ?_
  refine E.call rfl rfl (rLengths_ret vg (nz (Df.fqd ts)) 15 _ (hM.sl 4 rfl)) ?_
  rintro _ w3 ⟨v37, rfl, m⟩
  have hM := hM.call m
  try dsimp only [List.nil_append, List.cons_append, List.set_cons_zero, List.set_cons_succ, repl] at hM
  rw [show lnv (nz (Df.fqd ts)) 15 = _ from (Df.oln_law (fs := Df.fqd ts) (m := 15) (by decide) (by decide) (fun n hn => by have := Df.fqd_bd ts n hn; omega) (by rw [Df.fqd_len]; decide) (by rw [Df.fqd_len]; decide)).1, hDo] at hM
  try dsimp only [List.nil_append, List.cons_append, List.set_cons_zero, List.set_cons_succ, repl] at hM
  refine E.mv rfl rfl <| E.ext rfl rfl rfl <| E.ext rfl rfl rfl <| E.asg rfl rfl <| E.asg rfl rfl <| E.nil <| X.next <| C.seq <| C.region <| E.mv rfl rfl <| ?_
  refine E.call rfl rfl (rcut_ret v32 L 257 _ (hM.sl 5 rfl) (by omega)) ?_
  rintro _ w4 ⟨rfl, x4⟩
  have hM := hM.ext x4
  try dsimp only [List.nil_append, List.cons_append, List.set_cons_zero, List.set_cons_succ, repl] at hM
  refine E.asg rfl rfl <| E.nil <| X.next <| C.seq <| C.region <| E.mv rfl rfl <| ?_
  refine E.call rfl rfl (rcut_ret v37 D 1 _ (hM.sl 6 rfl) (by omega)) ?_
  rintro _ w5 ⟨rfl, x5⟩
  have hM := hM.ext x5
  try dsimp only [List.nil_append, List.cons_append, List.set_cons_zero, List.set_cons_succ, repl] at hM
  refine E.asg rfl rfl <| E.nil <| X.next <| C.seq <| C.region <| ?_
  refine E.mkM (enc := i64) (e := 3) [] hM rfl (fun _ => by kernel_rfl) rfl rfl rfl ?_
  intro v44 w5 hM
  try dsimp only [List.nil_append, List.cons_append, List.set_cons_zero, List.set_cons_succ, repl] at hM
  refine E.mv rfl rfl <| E.mv rfl rfl <| ?_
  refine E.slcP (k := .i64) 0 (Df.ctn L 257) rfl (.inr ⟨rfl, rfl⟩) (.inl rfl) (hM.sl 5 rfl) Tryd.underlying29 (by kernel_rfl) (by omega) (by rw [nz_len]; omega) rfl ?_
  refine E.appendM 7 hM rfl rfl rfl Tryd.underlying29 elem_Tint (nz_cut (hM.sl 5 rfl) hc1) (fun _ => rfl) (by simp only [nz_len, List.length_take, List.length_nil]; omega) (by simp only [nz_len, List.length_take, List.length_nil]; omega) rfl ?_
  intro v48 w6 hM
  try dsimp only [List.nil_append, List.cons_append, List.set_cons_zero, List.set_cons_succ, repl] at hM
  refine E.asg rfl rfl <| E.nil <| X.next <| C.seq <| C.region <| E.mv rfl rfl <| E.mv rfl rfl <| E.mv rfl rfl <| ?_
  refine E.slcP (k := .i64) 0 (Df.ctn D 1) rfl (.inr ⟨rfl, rfl⟩) (.inl rfl) (hM.sl 6 rfl) Tryd.underlying29 (by kernel_rfl) (by omega) (by rw [nz_len]; omega) rfl ?_
  refine E.appendM 7 hM rfl rfl rfl Tryd.underlying29 elem_Tint (nz_cut (hM.sl 6 rfl) hc2) (fun _ => rfl) (by simp only [nz_len, List.length_take]; omega) (by simp only [nz_len, List.length_take]; omega) rfl ?_
  intro v53 w7 hM
  try dsimp only [List.nil_append, List.cons_append, List.set_cons_zero, List.set_cons_succ, repl] at hM
  rw [← nz_app'] at hM
  refine E.asg rfl rfl <| E.nil <| X.next <| C.seq <| C.region <| E.mv rfl rfl <| ?_
  refine E.call rfl rfl (runs_ret v53 (Df.allL L D) _ (hM.sl 7 rfl) (by omega)) ?_
  rintro v55 w6 m
  have hM := hM.call m
  try dsimp only [List.nil_append, List.cons_append, List.set_cons_zero, List.set_cons_succ, repl] at hM
  rw [← hste] at hM
  try dsimp only [List.nil_append, List.cons_append, List.set_cons_zero, List.set_cons_succ, repl] at hM
  refine E.asg rfl rfl <| E.nil <| X.next <| C.seq <| C.region <| ?_
  refine E.makeM (by_ := 8) (enc := i64) (0 : Int) hM (n := 19) rfl Tryd.underlying29 (by kernel_rfl) rfl (by decide) (by decide) rfl ?_
  intro v56 w9 hM
  try dsimp only [List.nil_append, List.cons_append, List.set_cons_zero, List.set_cons_succ, repl] at hM
  rw [← nz_rep] at hM
  refine E.asg rfl rfl <| E.nil <| X.next <| C.seq <| C.seq <| C.region <| E.asg rfl rfl <| E.nil <| X.next <| C.block <| ?_

  refine C.loop1 [(0, _), (1, _), (6, _), (8, _), (10, _), (11, _), (13, _), (14, _)] rfl (fun (i : Nat) => [(15, i64 i)]) (fun (i : Nat) w' => M w (fpU [Rg.blk b 56 [vo, i64 (fr B)], Rg.sl u8 5 vo (Df.pk B), Rg.sl i64 3 vt (nz ts)]) w' [Rg.blk b 56 [vo, i64 (fr B)], Rg.sl u8 5 vo (Df.pk B), Rg.sl i64 3 vt (nz ts), Rg.sl i64 3 v32 (nz L), Rg.sl i64 3 v37 (nz D), Rg.slF esr 3 96 v55 st, Rg.sl i64 3 v56 (nz (Df.frqS (st.take i)))] ∧ i ≤ st.length) (fun (i : Nat) => st.length - i) 0 ?_ ?_ ?_
  · exact Sub.cons rfl <| Sub.nil _
  · exact ⟨hM.pick [0, 1, 2, 5, 6, 8, 9] (by decide), Nat.zero_le _⟩
  rintro i w10 ⟨hM, hi⟩
  refine C.seq <| C.seq <| C.region <| E.mv rfl rfl <| E.mv rfl rfl <| ?_
  refine E.lenv rfl (RdF.shape (hM.slF 5 rfl)) Tryd.underlying93 rfl ?_
  refine E.bin rfl rfl rfl rfl <| E.nil <| X.next <| ?_
  refine C.cond' rfl (fun hC0 => ?_) (fun hC0 => ?_)
  ·
    have hi' : i < st.length := by omega
    have hfl := Df.frqS_len (st.take i)
    have hfb := Df.frqS_bd (st.take i)
    have htl : (st.take i).length ≤ 316 := by rw [List.length_take]; omega
    have hx1 : st[i].1 < 19 := by rcases hst _ (List.getElem_mem hi') with h | h | h | h <;> omega
    have hfs := Df.frqS_snoc hi'
    refine C.skip <| X.next <| C.seq <| C.block <| C.region <| E.mv rfl rfl <| E.mv rfl rfl <| E.mv rfl rfl <| ?_
    refine E.idxF (k := i) rfl rfl (hM.slF 5 rfl) rfl hi' (by decide) Tryd.underlying93 (by kernel_rfl) rfl ?_
    refine E.fld (o := 0) (sz := 0) rfl Tryd.underlying96 rfl rfl (by kernel_rfl) rfl ?_
    refine E.load rfl Tryd.underlying3 rfl ((hM.slF 5 rfl).atA (k := i) (o := 0) rfl hi' rfl) rfl ?_
    refine E.get (k := st[i].1) rfl rfl (hM.sl 6 rfl) rfl (by rw [nz_len]; omega) Tryd.underlying29 (by kernel_rfl) Tryd.underlying3 rfl rfl rfl ?_
    rw [nz_gd]
    refine E.addN (a := (Df.frqS (st.take i)).getD st[i].1 0) (b := 1) rfl rfl (by have := gdB hfb st[i].1; omega) rfl ?_
    refine E.idx1 (k := st[i].1) rfl rfl (hM.sl 6 rfl) rfl (by rw [nz_len]; omega) Tryd.underlying29 (by kernel_rfl) rfl ?_
    refine E.storeL (enc := i64) 6 (((Df.frqS (st.take i)).getD st[i].1 0 + 1 : Nat) : Int) hM rfl rfl rfl (by kernel_rfl) rfl rfl (by rw [nz_len]; omega) ?_
    intro w11 hM
    try dsimp only [List.nil_append, List.cons_append, List.set_cons_zero, List.set_cons_succ, repl] at hM
    rw [Df.nz_bmp, ← hfs] at hM
    refine E.nil <| X.outN <| X.next <| C.region <| E.mv rfl rfl <| ?_
    refine E.addN (a := i) (b := 1) rfl rfl (by omega) rfl ?_

    refine E.asg rfl rfl <| E.nil <| X.again1 (i + 1) (Sub.cons rfl <| Sub.nil _) rfl ⟨hM, by omega⟩ (by omega)
  ·
    obtain rfl : i = st.length := by omega
    rw [List.take_length] at hM
    refine C.exit <| X.exitT <| X.exitT <| X.outE <| X.next <| C.seq <| C.region <| E.mv rfl rfl <| ?_
    refine E.call rfl rfl (rLengths_ret v56 (nz (Df.frqS st)) 7 _ (hM.sl 6 rfl)) ?_
    rintro _ w8 ⟨v75, rfl, m⟩
    have hM := hM.call m
    try dsimp only [List.nil_append, List.cons_append, List.set_cons_zero, List.set_cons_succ, repl] at hM
    rw [show lnv (nz (Df.frqS st)) 7 = _ from hlw] at hM
    try dsimp only [List.nil_append, List.cons_append, List.set_cons_zero, List.set_cons_succ, repl] at hM
    refine E.mv rfl rfl <| E.ext rfl rfl rfl <| E.ext rfl rfl rfl <| E.asg rfl rfl <| E.asg rfl rfl <| E.nil <| X.next <| C.seq <| C.region <| E.mv rfl rfl <| ?_
    refine E.call rfl rfl (rCodes_ret v75 (nz c) _ (hM.sl 7 rfl)) ?_
    rintro _ w9 ⟨v80, rfl, m⟩
    have hM := hM.call m
    try dsimp only [List.nil_append, List.cons_append, List.set_cons_zero, List.set_cons_succ, repl] at hM
    rw [cdv_ok hc30 hck (by omega)] at hM
    try dsimp only [List.nil_append, List.cons_append, List.set_cons_zero, List.set_cons_succ, repl] at hM
    refine E.mv rfl rfl <| E.ext rfl rfl rfl <| E.ext rfl rfl rfl <| E.asg rfl rfl <| E.asg rfl rfl <| E.nil <| X.next <| C.seq <| C.region <| E.asg rfl rfl <| E.nil <| X.next <| C.seq <| C.seq <| C.region <| E.asg rfl rfl <| E.nil <| X.next <| C.block <| ?_
    have hM := hM.nil i64 3
    try dsimp only [List.nil_append, List.cons_append, List.set_cons_zero, List.set_cons_succ, repl] at hM

    refine C.loop2 [(0, _), (1, _), (6, _), (8, _), (10, _), (11, _), (13, _), (16, _), (18, _)] rfl (fun (i : Nat) (vq : Value) => [(20, vq), (21, i64 i)]) (fun (i : Nat) (vq : Value) w' => M w (fpU [Rg.blk b 56 [vo, i64 (fr B)], Rg.sl u8 5 vo (Df.pk B), Rg.sl i64 3 vt (nz ts)]) w' [Rg.blk b 56 [vo, i64 (fr B)], Rg.sl u8 5 vo (Df.pk B), Rg.sl i64 3 vt (nz ts), Rg.sl i64 3 v32 (nz L), Rg.sl i64 3 v37 (nz D), Rg.slF esr 3 96 v55 st, Rg.sl i64 3 v75 (nz c), Rg.sl i64 3 v80 (Pf.cdl c), Rg.sl i64 3 vq (tab i (lsf c))] ∧ i ≤ 19) (fun (i : Nat) (vq : Value) => 19 - i) 0 (.slice none 0 0) ?_ ?_ ?_
    · exact Sub.cons rfl <| Sub.cons rfl <| Sub.nil _
    · exact ⟨hM.pick [0, 1, 2, 3, 4, 5, 7, 8, 9] (by decide), by omega⟩
    rintro i vq w14 ⟨hM, hi⟩
    refine C.seq <| C.seq <| C.region <| E.mv rfl rfl <| E.bin rfl rfl rfl rfl <| E.nil <| X.next <| ?_
    refine C.cond' rfl (fun hC1 => ?_) (fun hC1 => ?_)
    ·
      have hi' : i < 19 := by omega
      have hol := ord_lt i hi'
      have htl := tab_len i (lsf c)
      refine C.skip <| X.next <| C.seq <| C.block <| C.region <| E.mv rfl rfl <| E.mv rfl rfl <| ?_
      refine E.call rfl rfl (rorder_ret _) ?_
      rintro v89 w10 m
      have hM := hM.call m
      try dsimp only [List.nil_append, List.cons_append, List.set_cons_zero, List.set_cons_succ, repl] at hM
      try dsimp only [List.nil_append, List.cons_append, List.set_cons_zero, List.set_cons_succ, repl] at hM
      refine E.mv rfl rfl <| ?_
      refine E.get (k := i) rfl rfl (hM.sl 9 rfl) rfl (by rw [nz_len]; exact hi') Tryd.underlying29 (by kernel_rfl) Tryd.underlying3 rfl rfl rfl ?_
      rw [nz_gd]
      refine E.get (k := Df.ordL.getD i 0) rfl rfl (hM.sl 6 rfl) rfl (by rw [nz_len]; omega) Tryd.underlying29 (by kernel_rfl) Tryd.underlying3 rfl rfl rfl ?_
      rw [nz_gd]
      refine E.pushM (enc := i64) 8 (lsf c i) hM rfl rfl rfl Tryd.underlying29 elem_Tint rfl (by omega) (by omega) (by simp) rfl rfl ?_
      intro v96 u96 w16 hM
      try dsimp only [List.nil_append, List.cons_append, List.set_cons_zero, List.set_cons_succ, repl] at hM
      refine E.asg rfl rfl <| E.nil <| X.outN <| X.next <| C.region <| E.mv rfl rfl <| ?_
      refine E.addN (a := i) (b := 1) rfl rfl (by omega) rfl ?_

      refine E.asg rfl rfl <| E.nil <| X.again2 (i + 1) v96 (Sub.cons rfl <| Sub.cons rfl <| Sub.nil _) rfl ⟨(hM.pick [0, 1, 2, 3, 4, 5, 6, 7, 8] (by decide)).to (by rw [tab_succ]; rfl), by omega⟩ (by omega)
    ·
      obtain rfl : i = 19 := by omega
      rw [lsf_all] at hM
      refine C.exit <| X.exitT <| X.exitT <| X.outE <| X.next <| C.seq <| C.region <| E.mv rfl rfl <| ?_
      refine E.call rfl rfl (rcut_ret vq (Df.lst c) 4 _ (hM.sl 8 rfl) (by rw [Df.lst_len]; decide)) ?_
      rintro _ w11 ⟨rfl, x11⟩
      have hM := hM.ext x11
      try dsimp only [List.nil_append, List.cons_append, List.set_cons_zero, List.set_cons_succ, repl] at hM
      refine E.asg rfl rfl <| E.nil <| X.next <| C.seq <| C.region <| E.mv rfl rfl <| ?_
      refine E.call rfl rfl (rbits_ret b vo _ 5 3 _ (hM.pick [0, 1] (by decide)).sep (by omega) (by decide) (by omega)) ?_
      rintro _ w12 ⟨vn12, m⟩
      have hM := hM.calls [0, 1] (by decide) rfl (by simp) m
      try dsimp only [List.nil_append, List.cons_append, List.set_cons_zero, List.set_cons_succ, repl] at hM
      try dsimp only [List.nil_append, List.cons_append, List.set_cons_zero, List.set_cons_succ, repl] at hM
      refine E.nil <| X.next <| C.seq <| C.region <| E.mv rfl rfl <| E.mv rfl rfl <| ?_
      refine E.subN (a := Df.ctn L 257) (b := 257) rfl rfl (by omega) rfl ?_
      refine E.call rfl rfl (rbits_ret b vn12 _ (Df.ctn L 257 - 257) 5 _ (hM.pick [0, 1] (by decide)).sep (by omega) (by decide) (by simp only [List.length_append, Df.low_len]; omega)) ?_
      rintro _ w13 ⟨vn13, m⟩
      have hM := hM.calls [0, 1] (by decide) rfl (by simp) m
      try dsimp only [List.nil_append, List.cons_append, List.set_cons_zero, List.set_cons_succ, repl] at hM
      try dsimp only [List.nil_append, List.cons_append, List.set_cons_zero, List.set_cons_succ, repl] at hM
      refine E.nil <| X.next <| C.seq <| C.region <| E.mv rfl rfl <| E.mv rfl rfl <| ?_
      refine E.subN (a := Df.ctn D 1) (b := 1) rfl rfl (by omega) rfl ?_
      refine E.call rfl rfl (rbits_ret b vn13 _ (Df.ctn D 1 - 1) 5 _ (hM.pick [0, 1] (by decide)).sep (by omega) (by decide) (by simp only [List.length_append, Df.low_len]; omega)) ?_
      rintro _ w14 ⟨vn14, m⟩
      have hM := hM.calls [0, 1] (by decide) rfl (by simp) m
      try dsimp only [List.nil_append, List.cons_append, List.set_cons_zero, List.set_cons_succ, repl] at hM
      try dsimp only [List.nil_append, List.cons_append, List.set_cons_zero, List.set_cons_succ, repl] at hM
      refine E.nil <| X.next <| C.seq <| C.region <| E.mv rfl rfl <| E.mv rfl rfl <| ?_
      refine E.subN (a := Df.ctn (Df.lst c) 4) (b := 4) rfl rfl (by omega) rfl ?_
      refine E.call rfl rfl (rbits_ret b vn14 _ (Df.ctn (Df.lst c) 4 - 4) 4 _ (hM.pick [0, 1] (by decide)).sep (by omega) (by decide) (by simp only [List.length_append, Df.low_len]; omega)) ?_
      rintro _ w15 ⟨vn15, m⟩
      have hM := hM.calls [0, 1] (by decide) rfl (by simp) m
      try dsimp only [List.nil_append, List.cons_append, List.set_cons_zero, List.set_cons_succ, repl] at hM
      try dsimp only [List.nil_append, List.cons_append, List.set_cons_zero, List.set_cons_succ, repl] at hM
      refine E.nil <| X.next <| C.seq <| C.seq <| C.region <| E.asg rfl rfl <| E.nil <| X.next <| C.block <| ?_

      refine C.loop2 [(0, _), (1, _), (6, _), (8, _), (13, _), (16, _), (18, _), (20, _), (22, _)] rfl (fun (i : Nat) (vs : Value) => [(23, i64 i)]) (fun (i : Nat) (vs : Value) w' => M w (fpU [Rg.blk b 56 [vo, i64 (fr B)], Rg.sl u8 5 vo (Df.pk B), Rg.sl i64 3 vt (nz ts)]) w' [Rg.blk b 56 [vs, i64 (fr (B ++ Df.low 5 3 ++ Df.low (Df.ctn L 257 - 257) 5 ++ Df.low (Df.ctn D 1 - 1) 5 ++ Df.low (Df.ctn (Df.lst c) 4 - 4) 4 ++ Df.hdr3 c i))], Rg.sl u8 5 vs (Df.pk (B ++ Df.low 5 3 ++ Df.low (Df.ctn L 257 - 257) 5 ++ Df.low (Df.ctn D 1 - 1) 5 ++ Df.low (Df.ctn (Df.lst c) 4 - 4) 4 ++ Df.hdr3 c i)), Rg.sl i64 3 vt (nz ts), Rg.sl i64 3 v32 (nz L), Rg.sl i64 3 v37 (nz D), Rg.slF esr 3 96 v55 st, Rg.sl i64 3 v75 (nz c), Rg.sl i64 3 v80 (Pf.cdl c), Rg.sl i64 3 vq (nz (Df.lst c))] ∧ i ≤ Df.ctn (Df.lst c) 4) (fun (i : Nat) (vs : Value) => Df.ctn (Df.lst c) 4 - i) 0 vn15 ?_ ?_ ?_
      · exact Sub.cons rfl <| Sub.nil _
      · exact ⟨hM.to (by rw [show Df.hdr3 c 0 = [] from rfl, List.append_nil]), Nat.zero_le _⟩
      rintro i vs w22 ⟨hM, hi⟩
      refine C.seq <| C.seq <| C.region <| E.mv rfl rfl <| E.mv rfl rfl <| E.bin rfl rfl rfl rfl <| E.nil <| X.next <| ?_
      refine C.cond' rfl (fun hC2 => ?_) (fun hC2 => ?_)
      ·
        have hi' : i < Df.ctn (Df.lst c) 4 := by omega
        have hhl := Df.hdr3_len c i
        have hsn := Df.hdr3_snoc (c := c) (i := i) (by omega)
        have hlb : (Df.lst c).getD i 0 ≤ 7 := gdB (l := Df.lst c) (B := 7) (fun n hn => by obtain ⟨s, _, rfl⟩ := List.mem_map.1 hn; exact gdB hcb s) i
        refine C.skip <| X.next <| C.seq <| C.block <| C.region <| E.mv rfl rfl <| E.mv rfl rfl <| E.mv rfl rfl <| ?_
        refine E.get (k := i) rfl rfl (hM.sl 8 rfl) rfl (by rw [nz_len, Df.lst_len]; omega) Tryd.underlying29 (by kernel_rfl) Tryd.underlying3 rfl rfl rfl ?_
        rw [nz_gd]
        refine E.call rfl rfl (rbits_ret b vs _ ((Df.lst c).getD i 0) 3 _ (hM.pick [0, 1] (by decide)).sep (by omega) (by decide) (by simp only [List.length_append, Df.low_len]; omega)) ?_
        rintro _ w16 ⟨vn16, m⟩
        have hM := hM.calls [0, 1] (by decide) rfl (by simp) m
        try dsimp only [List.nil_append, List.cons_append, List.set_cons_zero, List.set_cons_succ, repl] at hM
        try dsimp only [List.nil_append, List.cons_append, List.set_cons_zero, List.set_cons_succ, repl] at hM
        refine E.nil <| X.outN <| X.next <| C.region <| E.mv rfl rfl <| ?_
        refine E.addN (a := i) (b := 1) rfl rfl (by omega) rfl ?_

        refine E.asg rfl rfl <| E.nil <| X.again2 (i + 1) vn16 (Sub.cons rfl <| Sub.nil _) rfl ⟨hM.to (by rw [hsn]; simp only [List.append_assoc]), by omega⟩ (by omega)
      ·
        obtain rfl : i = Df.ctn (Df.lst c) 4 := by omega
        obtain ⟨Bh, hBh⟩ : ∃ x, x = (B ++ Df.low 5 3 ++ Df.low (Df.ctn L 257 - 257) 5 ++ Df.low (Df.ctn D 1 - 1) 5 ++ Df.low (Df.ctn (Df.lst c) 4 - 4) 4 ++ Df.hdr3 c (Df.ctn (Df.lst c) 4)) := ⟨_, rfl⟩
        have hBl : Bh.length ≤ 1100 := by have := Df.hdr3_len c (Df.ctn (Df.lst c) 4); rw [hBh]; simp only [List.length_append, Df.low_len]; omega
        rw [← hBh] at hM
        refine C.exit <| X.exitT <| X.exitT <| X.outE <| X.next <| C.seq <| C.seq <| C.region <| E.asg rfl rfl <| E.nil <| X.next <| C.block <| ?_

        refine C.loop2 [(0, _), (1, _), (6, _), (8, _), (13, _), (16, _), (18, _)] rfl (fun (i : Nat) (vs : Value) => [(24, i64 i)]) (fun (i : Nat) (vs : Value) w' => M w (fpU [Rg.blk b 56 [vo, i64 (fr B)], Rg.sl u8 5 vo (Df.pk B), Rg.sl i64 3 vt (nz ts)]) w' [Rg.blk b 56 [vs, i64 (fr (Bh ++ (st.take i).flatMap (Df.sbits c)))], Rg.sl u8 5 vs (Df.pk (Bh ++ (st.take i).flatMap (Df.sbits c))), Rg.sl i64 3 vt (nz ts), Rg.sl i64 3 v32 (nz L), Rg.sl i64 3 v37 (nz D), Rg.slF esr 3 96 v55 st, Rg.sl i64 3 v75 (nz c), Rg.sl i64 3 v80 (Pf.cdl c)] ∧ i ≤ st.length) (fun (i : Nat) (vs : Value) => st.length - i) 0 vs ?_ ?_ ?_
        · exact Sub.cons rfl <| Sub.nil _
        · exact ⟨(hM.pick [0, 1, 2, 3, 4, 5, 6, 7] (by decide)).to (by rw [List.take_zero, List.flatMap_nil, List.append_nil]; rfl), Nat.zero_le _⟩
        rintro i vs w24 ⟨hM, hi⟩
        refine C.seq <| C.seq <| C.region <| E.mv rfl rfl <| E.mv rfl rfl <| ?_
        refine E.lenv rfl (RdF.shape (hM.slF 5 rfl)) Tryd.underlying93 rfl ?_
        refine E.bin rfl rfl rfl rfl <| E.nil <| X.next <| ?_
        refine C.cond' rfl (fun hC3 => ?_) (fun hC3 => ?_)
        ·
          have hi' : i < st.length := by omega
          have hsx := hst _ (List.getElem_mem hi')
          have hx1 : st[i].1 < 19 := by rcases hsx with h | h | h | h <;> omega
          have hx2 : st[i].2.2 ≤ 7 ∧ st[i].2.1 ≤ 128 := by rcases hsx with h | h | h | h; (rw [h.2]; decide); omega; omega; omega
          have hsn := Df.sbs_snoc (c := c) hi'
          have hbl := Df.sbs_len hc30 (st := st.take i) (fun x hx => hst x (List.mem_of_mem_take hx))
          have htl : (st.take i).length ≤ 316 := by rw [List.length_take]; omega
          have hgc := Df.gd30 hc30 st[i].1
          refine C.skip <| X.next <| C.seq <| C.block <| C.seq <| C.region <| E.mv rfl rfl <| E.mv rfl rfl <| E.mv rfl rfl <| ?_
          refine E.idxF (k := i) rfl rfl (hM.slF 5 rfl) rfl hi' (by decide) Tryd.underlying93 (by kernel_rfl) rfl ?_
          refine E.fld (o := 0) (sz := 0) rfl Tryd.underlying96 rfl rfl (by kernel_rfl) rfl ?_
          refine E.load rfl Tryd.underlying3 rfl ((hM.slF 5 rfl).atA (k := i) (o := 0) rfl hi' rfl) rfl ?_
          refine E.mv rfl rfl <| E.mv rfl rfl <| ?_
          refine E.call rfl rfl (rsymbol_ret b vs v75 v80 _ c st[i].1 _ (hM.pick [0, 1, 6, 7] (by decide)).sep (by omega) hc30 hck (by rw [List.length_append]; omega)) ?_
          rintro _ w18 ⟨vn18, m⟩
          have hM := hM.calls [0, 1, 6, 7] (by decide) rfl (by simp) m
          try dsimp only [List.nil_append, List.cons_append, List.set_cons_zero, List.set_cons_succ, repl] at hM
          try dsimp only [List.nil_append, List.cons_append, List.set_cons_zero, List.set_cons_succ, repl] at hM
          refine E.nil <| X.next <| C.drawnT 11 (by kernel_rfl) (by kernel_rfl) fun wh26 hwh26 => ?_
          have hM := hM.ext hwh26
          refine S.mv rfl rfl <| S.mv rfl rfl <| S.mv rfl rfl <| ?_
          refine S.idxF (k := i) rfl rfl (hM.slF 5 rfl) rfl hi' (by decide) Tryd.underlying93 (by kernel_rfl) rfl ?_
          refine S.fld (o := 2) (sz := 0) rfl Tryd.underlying96 rfl rfl (by kernel_rfl) rfl ?_
          refine S.load rfl Tryd.underlying3 rfl ((hM.slF 5 rfl).atA (k := i) (o := 2) rfl hi' rfl) rfl ?_
          refine S.mv rfl rfl <| S.mv rfl rfl <| ?_
          refine S.idxF (k := i) rfl rfl (hM.slF 5 rfl) rfl hi' (by decide) Tryd.underlying93 (by kernel_rfl) rfl ?_
          refine S.fld (o := 1) (sz := 0) rfl Tryd.underlying96 rfl rfl (by kernel_rfl) rfl ?_
          refine S.load rfl Tryd.underlying3 rfl ((hM.slF 5 rfl).atA (k := i) (o := 1) rfl hi' rfl) rfl ?_
          refine S.nil ?_
          refine E.call rfl rfl (rbits_ret b vn18 _ st[i].2.1 st[i].2.2 _ (hM.pick [0, 1] (by decide)).sep (by omega) (by omega) (by simp only [List.length_append, btv_len]; omega)) ?_
          rintro _ w19 ⟨vn19, m⟩
          have hM := hM.calls [0, 1] (by decide) rfl (by simp) m
          try dsimp only [List.nil_append, List.cons_append, List.set_cons_zero, List.set_cons_succ, repl] at hM
          try dsimp only [List.nil_append, List.cons_append, List.set_cons_zero, List.set_cons_succ, repl] at hM
          refine E.nil <| X.outN <| X.next <| C.region <| E.mv rfl rfl <| ?_
          refine E.addN (a := i) (b := 1) rfl rfl (by omega) rfl ?_

          refine E.asg rfl rfl <| E.nil <| X.again2 (i + 1) vn19 (Sub.cons rfl <| Sub.nil _) rfl ⟨hM.to (by rw [hsn, Df.sbits]; simp only [List.append_assoc]), by omega⟩ (by omega)
        ·
          obtain rfl : i = st.length := by omega
          rw [List.take_length] at hM
          obtain ⟨Bt, hBt⟩ : ∃ x, x = Bh ++ st.flatMap (Df.sbits c) := ⟨_, rfl⟩
          have hbl := Df.sbs_len hc30 hst
          have hBtl : Bt.length ≤ 20000 := by rw [hBt, List.length_append]; omega
          rw [← hBt] at hM
          have hfin : Bt = B ++ Df.low 5 3 ++ Df.hdr L D := by rw [hBt, hBh, hhd]; simp only [List.append_assoc]
          refine C.exit <| X.exitT <| X.exitT <| X.outE <| X.next <| C.region <| E.mv rfl rfl <| E.mv rfl rfl <| E.mv rfl rfl <| E.mv rfl rfl <| ?_
          refine E.call rfl rfl (rtokens_ret b vs v32 v37 vt Bt L D ts _ (hM.pick [0, 1, 3, 4, 2] (by decide)).sep htk (by omega) (by omega) (by omega) (by omega) (fun n hn => Nat.le_trans (hbL n hn) (by decide)) (fun n hn => Nat.le_trans (hbD n hn) (by decide)) hkL hkD (by omega)) ?_
          rintro _ w20 ⟨vn20, m⟩
          have hM := hM.calls [0, 1, 3, 4, 2] (by decide) rfl (by simp) m
          try dsimp only [List.nil_append, List.cons_append, List.set_cons_zero, List.set_cons_succ, repl] at hM
          try dsimp only [List.nil_append, List.cons_append, List.set_cons_zero, List.set_cons_succ, repl] at hM
          refine E.nil <| end0 rfl ?_
          exact ⟨vn20, (hM.pick [0, 1, 2] (by decide)).to (by rw [hfin]; rfl)⟩

end Go.Proofs.YtcmgbjmcklfkcaaDoor
