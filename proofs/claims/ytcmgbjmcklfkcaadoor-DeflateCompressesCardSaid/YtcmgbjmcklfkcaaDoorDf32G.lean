/- barscanref34: tokens are written. -/
import Derived.Test.YtcmgbjmcklfkcaaDoorDf31G
namespace Go.Proofs.YtcmgbjmcklfkcaaDoor
set_option linter.unusedSimpArgs false
set_option linter.unusedVariables false
open Go.RowKit Sym

set_option maxHeartbeats 4000000 in
set_option maxRecDepth 4000 in
theorem rtokens_ret (b : Nat) (vo vl dl vt : Value) (B : List Bool) (L D ts : List Nat) (w : World) (hs : Sep w [Rg.blk b 56 [vo, i64 (fr B)], Rg.sl u8 5 vo (Df.pk B), Rg.sl i64 3 vl (nz L), Rg.sl i64 3 dl (nz D), Rg.sl i64 3 vt (nz ts)]) (htk : ∀ t ∈ ts, Df.Tok t) (hL : 286 ≤ L.length) (hD : 30 ≤ D.length) (hLm : L.length ≤ 4096) (hDm : D.length ≤ 4096) (hbL : ∀ n ∈ L, n ≤ 30) (hbD : ∀ n ∈ D, n ≤ 30) (hkL : Pf.kr L ≤ 1073741824) (hkD : Pf.kr D ≤ 1073741824) (hl : B.length + 100 * ts.length ≤ 274877906944) :
    Ret Tryd.prog 30 #[pv b, vt, vl, dl] w fun v w' => ∃ vn, M w (fpU [Rg.blk b 56 [vo, i64 (fr B)], Rg.sl u8 5 vo (Df.pk B), Rg.sl i64 3 vl (nz L), Rg.sl i64 3 dl (nz D), Rg.sl i64 3 vt (nz ts)]) w' [Rg.blk b 56 [vn, i64 (fr (B ++ Df.tbs L D ts ++ btv (Pf.code L 256) (L.getD 256 0)))], Rg.sl u8 5 vn (Df.pk (B ++ Df.tbs L D ts ++ btv (Pf.code L 256) (L.getD 256 0))), Rg.sl i64 3 vl (nz L), Rg.sl i64 3 dl (nz D), Rg.sl i64 3 vt (nz ts)] := by
  have hM := M.startS hs
  refine enter Tryd.func30 rfl (by kernel_rfl) Tryd.ntmps30 rfl ?_
  refine C.seq <| C.region <| E.mv rfl rfl <| ?_
  have hnt := nz_len ts
  refine E.call rfl rfl (rCodes_ret vl (nz L) _ (hM.sl 2 rfl)) ?_
  rintro _ wa ⟨vc, rfl, m⟩
  have hM := hM.call m
  try dsimp only [List.nil_append, List.cons_append, List.set_cons_zero, List.set_cons_succ, repl] at hM
  rw [cdv_ok hbL hkL hLm] at hM
  try dsimp only [List.nil_append, List.cons_append, List.set_cons_zero, List.set_cons_succ, repl] at hM
  refine E.mv rfl rfl <| E.ext rfl rfl rfl <| E.ext rfl rfl rfl <| E.asg rfl rfl <| E.asg rfl rfl <| E.nil <| X.next <| C.seq <| C.region <| E.mv rfl rfl <| ?_
  refine E.call rfl rfl (rCodes_ret dl (nz D) _ (hM.sl 3 rfl)) ?_
  rintro _ wb ⟨dc, rfl, m⟩
  have hM := hM.call m
  try dsimp only [List.nil_append, List.cons_append, List.set_cons_zero, List.set_cons_succ, repl] at hM
  rw [cdv_ok hbD hkD hDm] at hM
  try dsimp only [List.nil_append, List.cons_append, List.set_cons_zero, List.set_cons_succ, repl] at hM
  refine E.mv rfl rfl <| E.ext rfl rfl rfl <| E.ext rfl rfl rfl <| E.asg rfl rfl <| E.asg rfl rfl <| E.nil <| X.next <| C.seq <| C.seq <| C.region <| E.asg rfl rfl <| E.nil <| X.next <| C.block <| ?_

  refine C.loop2 [(0, _), (1, _), (2, _), (3, _), (8, _), (10, _)] rfl (fun (i : Nat) (vs : Value) => [(12, i64 i)]) (fun (i : Nat) (vs : Value) w' => M w (fpU [Rg.blk b 56 [vo, i64 (fr B)], Rg.sl u8 5 vo (Df.pk B), Rg.sl i64 3 vl (nz L), Rg.sl i64 3 dl (nz D), Rg.sl i64 3 vt (nz ts)]) w' [Rg.blk b 56 [vs, i64 (fr (B ++ Df.tbs L D (ts.take i)))], Rg.sl u8 5 vs (Df.pk (B ++ Df.tbs L D (ts.take i))), Rg.sl i64 3 vl (nz L), Rg.sl i64 3 dl (nz D), Rg.sl i64 3 vt (nz ts), Rg.sl i64 3 vc (Pf.cdl L), Rg.sl i64 3 dc (Pf.cdl D)] ∧ i ≤ ts.length) (fun (i : Nat) (vs : Value) => ts.length - i) 0 vo ?_ ?_ ?_
  · exact Sub.cons rfl <| Sub.nil _
  · exact ⟨hM.to (by rw [List.take_zero, show Df.tbs L D [] = [] from rfl, List.append_nil]), Nat.zero_le _⟩
  rintro i vs w2 ⟨hM, hi⟩
  refine C.seq <| C.seq <| C.region <| E.mv rfl rfl <| E.mv rfl rfl <| ?_
  refine E.lenv rfl (Rd.shape (hM.sl 4 rfl)) Tryd.underlying29 rfl ?_
  rw [nz_len]
  refine E.bin rfl rfl rfl rfl <| E.nil <| X.next <| ?_
  refine C.cond' rfl (fun hC0 => ?_) (fun hC0 => ?_)
  ·
    have hi' : i < ts.length := by omega
    obtain ⟨t, hte⟩ : ∃ t, t = ts[i] := ⟨_, rfl⟩
    have htt := htk ts[i] (List.getElem_mem hi')
    rw [← hte] at htt
    have hsn := Df.tbs_snoc (L := L) (D := D) hi'
    rw [← hte] at hsn
    have hBl : (B ++ Df.tbs L D (ts.take i)).length ≤ 274877906944 := by
      have := Df.tbs_len hbL hbD (ts := ts.take i) (fun x hx => htk x (List.mem_of_mem_take hx))
      rw [List.length_append]; rw [List.length_take] at this; omega
    obtain ⟨Bi, hBi⟩ : ∃ X, X = B ++ Df.tbs L D (ts.take i) := ⟨_, rfl⟩
    rw [← hBi] at hM hBl
    refine C.skip <| X.next <| ?_

    refine C.cut1 [(0, _), (1, _), (2, _), (3, _), (8, _), (10, _), (12, _)] rfl (fun (vn : Value) => []) (fun (vn : Value) w' => M w (fpU [Rg.blk b 56 [vo, i64 (fr B)], Rg.sl u8 5 vo (Df.pk B), Rg.sl i64 3 vl (nz L), Rg.sl i64 3 dl (nz D), Rg.sl i64 3 vt (nz ts)]) w' [Rg.blk b 56 [vn, i64 (fr (B ++ Df.tbs L D (ts.take (i + 1))))], Rg.sl u8 5 vn (Df.pk (B ++ Df.tbs L D (ts.take (i + 1)))), Rg.sl i64 3 vl (nz L), Rg.sl i64 3 dl (nz D), Rg.sl i64 3 vt (nz ts), Rg.sl i64 3 vc (Pf.cdl L), Rg.sl i64 3 dc (Pf.cdl D)]) ?_ ?_
    ·
      refine C.block <| C.seq <| C.seq <| C.region <| E.mv rfl rfl <| E.mv rfl rfl <| ?_
      refine E.get (k := i) rfl rfl (hM.sl 4 rfl) rfl (by omega) Tryd.underlying29 (by kernel_rfl) Tryd.underlying3 rfl rfl rfl ?_
      rw [nz_get hi', ← hte]
      refine E.bin rfl rfl rfl rfl <| E.nil <| X.next <| ?_
      refine C.cond' rfl (fun hC1 => ?_) (fun hC1 => ?_)
      ·
        have h255 : t ≤ 255 := by omega
        refine C.seq <| C.region <| E.mv rfl rfl <| E.mv rfl rfl <| E.mv rfl rfl <| ?_
        refine E.get (k := i) rfl rfl (hM.sl 4 rfl) rfl (by omega) Tryd.underlying29 (by kernel_rfl) Tryd.underlying3 rfl rfl rfl ?_
        rw [nz_get hi', ← hte]
        refine E.mv rfl rfl <| E.mv rfl rfl <| ?_
        refine E.call rfl rfl (rsymbol_ret b vs vl vc Bi L t _ (hM.pick [0, 1, 2, 5] (by decide)).sep (by omega) hbL hkL (by omega)) ?_
        rintro _ w1 ⟨vn1, m⟩
        have hM := hM.calls [0, 1, 2, 5] (by decide) rfl (by simp) m
        try dsimp only [List.nil_append, List.cons_append, List.set_cons_zero, List.set_cons_succ, repl] at hM
        try dsimp only [List.nil_append, List.cons_append, List.set_cons_zero, List.set_cons_succ, repl] at hM

        refine E.nil <| X.next <| C.exit <| X.exitT <| X.outE <| X.join1 vn1 (Sub.nil _) rfl (hM.to (by rw [hsn, Df.tb, if_pos h255, hBi, List.append_assoc]))
      ·
        have h255 : ¬ t ≤ 255 := by omega
        obtain ⟨h3, h258, hd1, hd2⟩ := htt.resolve_left h255
        obtain ⟨ga, gb, gc, gd⟩ := Df.lsy_spec h3 h258
        obtain ⟨ka, kb, kc⟩ := Df.dsy_spec hd1 hd2
        have hx1 := Df.lx_bd (Df.lsy (t / 65536)) (by omega)
        have hx2 := Df.dx_bd (Df.dsy (t % 65536)) (by omega)
        have htb : t ≤ 16973823 := by omega
        have hgL := Df.gd30 hbL (Df.lsy (t / 65536))
        have hgD := Df.gd30 hbD (Df.dsy (t % 65536))
        rw [Df.tb, if_neg h255] at hsn
        refine C.skip <| X.next <| C.seq <| C.region <| E.mv rfl rfl <| E.mv rfl rfl <| ?_
        refine E.get (k := i) rfl rfl (hM.sl 4 rfl) rfl (by omega) Tryd.underlying29 (by kernel_rfl) Tryd.underlying3 rfl rfl rfl ?_
        rw [nz_get hi', ← hte]
        refine E.quo rfl rfl (by omega) (quoN (a := t) (b := 65536) (by omega) (by omega)) rfl ?_
        refine E.call rfl rfl (rlengthSymbol_ret (t / 65536) _ h3 h258) ?_
        rintro _ w2 ⟨rfl, x2⟩
        have hM := hM.ext x2
        try dsimp only [List.nil_append, List.cons_append, List.set_cons_zero, List.set_cons_succ, repl] at hM
        refine E.mv rfl rfl <| E.ext rfl rfl rfl <| E.ext rfl rfl rfl <| E.ext rfl rfl rfl <| E.asg rfl rfl <| E.asg rfl rfl <| E.asg rfl rfl <| E.nil <| X.next <| C.seq <| C.region <| E.mv rfl rfl <| E.mv rfl rfl <| E.mv rfl rfl <| E.mv rfl rfl <| ?_
        refine E.call rfl rfl (rsymbol_ret b vs vl vc Bi L (Df.lsy (t / 65536)) _ (hM.pick [0, 1, 2, 5] (by decide)).sep (by omega) hbL hkL (by omega)) ?_
        rintro _ w4 ⟨vn4, m⟩
        have hM := hM.calls [0, 1, 2, 5] (by decide) rfl (by simp) m
        try dsimp only [List.nil_append, List.cons_append, List.set_cons_zero, List.set_cons_succ, repl] at hM
        try dsimp only [List.nil_append, List.cons_append, List.set_cons_zero, List.set_cons_succ, repl] at hM
        refine E.nil <| X.next <| C.seq <| C.region <| E.mv rfl rfl <| E.mv rfl rfl <| E.mv rfl rfl <| ?_
        refine E.call rfl rfl (rbits_ret b vn4 _ (t / 65536 - Df.lls (Df.lsy (t / 65536))) (Df.lxt (Df.lsy (t / 65536))) _ (hM.pick [0, 1] (by decide)).sep (by omega) (by omega) (by rw [List.length_append, btv_len]; omega)) ?_
        rintro _ w5 ⟨vn5, m⟩
        have hM := hM.calls [0, 1] (by decide) rfl (by simp) m
        try dsimp only [List.nil_append, List.cons_append, List.set_cons_zero, List.set_cons_succ, repl] at hM
        try dsimp only [List.nil_append, List.cons_append, List.set_cons_zero, List.set_cons_succ, repl] at hM
        refine E.nil <| X.next <| C.seq <| C.region <| E.mv rfl rfl <| E.mv rfl rfl <| ?_
        refine E.get (k := i) rfl rfl (hM.sl 4 rfl) rfl (by omega) Tryd.underlying29 (by kernel_rfl) Tryd.underlying3 rfl rfl rfl ?_
        rw [nz_get hi', ← hte]
        refine E.rem rfl rfl (by omega) (remN (a := t) (b := 65536)) rfl ?_
        refine E.call rfl rfl (rdistanceSymbol_ret (t % 65536) _ hd1 hd2) ?_
        rintro _ w6 ⟨rfl, x6⟩
        have hM := hM.ext x6
        try dsimp only [List.nil_append, List.cons_append, List.set_cons_zero, List.set_cons_succ, repl] at hM
        refine E.mv rfl rfl <| E.ext rfl rfl rfl <| E.ext rfl rfl rfl <| E.ext rfl rfl rfl <| E.asg rfl rfl <| E.asg rfl rfl <| E.asg rfl rfl <| E.nil <| X.next <| C.seq <| C.region <| E.mv rfl rfl <| E.mv rfl rfl <| E.mv rfl rfl <| E.mv rfl rfl <| ?_
        refine E.call rfl rfl (rsymbol_ret b vn5 dl dc _ D (Df.dsy (t % 65536)) _ (hM.pick [0, 1, 3, 6] (by decide)).sep (by omega) hbD hkD (by rw [List.length_append, List.length_append, btv_len, Df.low_len]; omega)) ?_
        rintro _ w8 ⟨vn8, m⟩
        have hM := hM.calls [0, 1, 3, 6] (by decide) rfl (by simp) m
        try dsimp only [List.nil_append, List.cons_append, List.set_cons_zero, List.set_cons_succ, repl] at hM
        try dsimp only [List.nil_append, List.cons_append, List.set_cons_zero, List.set_cons_succ, repl] at hM
        refine E.nil <| X.next <| C.region <| E.mv rfl rfl <| E.mv rfl rfl <| E.mv rfl rfl <| ?_
        refine E.call rfl rfl (rbits_ret b vn8 _ (t % 65536 - Df.dls (Df.dsy (t % 65536))) (Df.dxt (Df.dsy (t % 65536))) _ (hM.pick [0, 1] (by decide)).sep (by omega) (by omega) (by rw [List.length_append, List.length_append, List.length_append, btv_len, Df.low_len, btv_len]; omega)) ?_
        rintro _ w9 ⟨vn9, m⟩
        have hM := hM.calls [0, 1] (by decide) rfl (by simp) m
        try dsimp only [List.nil_append, List.cons_append, List.set_cons_zero, List.set_cons_succ, repl] at hM
        try dsimp only [List.nil_append, List.cons_append, List.set_cons_zero, List.set_cons_succ, repl] at hM

        refine E.nil <| X.outN <| X.join1 vn9 (Sub.nil _) rfl (hM.to (by rw [hsn, hBi]; simp only [List.append_assoc]))
    rintro vn w10 hM
    refine C.region <| E.mv rfl rfl <| ?_
    refine E.addN (a := i) (b := 1) rfl rfl (by omega) rfl ?_

    refine E.asg rfl rfl <| E.nil <| X.again2 (i + 1) vn (Sub.cons rfl <| Sub.nil _) rfl ⟨hM, by omega⟩ (by omega)
  ·
    obtain rfl : i = ts.length := by omega
    rw [List.take_length] at hM
    have hBl := Df.tbs_len hbL hbD htk
    refine C.exit <| X.exitT <| X.exitT <| X.outE <| X.next <| C.region <| E.mv rfl rfl <| E.mv rfl rfl <| E.mv rfl rfl <| ?_
    refine E.call rfl rfl (rsymbol_ret b vs vl vc _ L 256 _ (hM.pick [0, 1, 2, 5] (by decide)).sep (by omega) hbL hkL (by rw [List.length_append]; omega)) ?_
    rintro _ w10 ⟨vn10, m⟩
    have hM := hM.calls [0, 1, 2, 5] (by decide) rfl (by simp) m
    try dsimp only [List.nil_append, List.cons_append, List.set_cons_zero, List.set_cons_succ, repl] at hM
    try dsimp only [List.nil_append, List.cons_append, List.set_cons_zero, List.set_cons_succ, repl] at hM
    refine E.nil <| end0 rfl ?_
    exact ⟨vn10, hM.pick [0, 1, 2, 3, 4] (by decide)⟩

end Go.Proofs.YtcmgbjmcklfkcaaDoor
