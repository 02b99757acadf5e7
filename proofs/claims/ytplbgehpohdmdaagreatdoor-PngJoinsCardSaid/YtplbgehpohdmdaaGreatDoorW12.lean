/- Texts of the claim, laid together: Df7, Df3. -/
import Derived.Test.YtplbgehpohdmdaaGreatDoorW0
import Derived.Test.YtplbgehpohdmdaaGreatDoorW6
import Derived.Test.YtplbgehpohdmdaaGreatDoorW10
import Derived.Test.YtplbgehpohdmdaaGreatDoorW11
set_option linter.unusedSimpArgs false
set_option linter.unusedVariables false
namespace Go.Proofs.YtplbgehpohdmdaaGreatDoor
open Go.RowKit Sym
theorem elem_Tdeflate_step : Elem Tryz.prog 133 3 24 := elem_of (z := .agg #[.int .i64 0, .int .i64 0, .int .i64 0]) (by kernel_rfl) rfl (by decide)
open Df (Stp)
abbrev es (x : Stp) : List Value := [i64 (x.1 : Int), i64 (x.2.1 : Int), i64 (x.2.2 : Int)]
theorem es_one (a : Stp) : ∀ x ∈ es a, x.oneCell' = true := ones rfl <| ones rfl <| ones rfl <| ones_nil
theorem nz_rep (n : Nat) : nz (List.replicate n 0) = List.replicate n (0 : Int) := by unfold nz; rw [List.map_replicate]; rfl
theorem nz_set (l : List Nat) (k n : Nat) : (nz l).set k (n : Int) = nz (l.set k n) := by unfold nz; rw [List.map_set]
theorem nz_gd {l : List Nat} {k : Nat} (h : k < (nz l).length) : (nz l)[k] = ((l.getD k 0 : Nat) : Int) := by
 have h' : k < l.length := by rw [nz_len] at h; exact h
 rw [nz_get h', Pf.getD_eq h']
theorem cdv_ok {c : List Nat} (hb : ∀ n ∈ c, n ≤ 30) (hk : Pf.kr c ≤ 1073741824) (hl : c.length ≤ 4096) : cdv (nz c) = Pf.cdl c := by
 have h : ckv (nz c) = 0 := by
  unfold ckv
  rw [if_neg (by rw [nz_len]; omega), if_pos (show okr (nz c) 30 = true from Df.okr_nz' (m := 30) hb), Df.toN_nz', if_neg (by omega)]
 rw [cdv, if_pos h, Df.toN_nz']
theorem gdB {l : List Nat} {B : Nat} (h : ∀ n ∈ l, n ≤ B) (s : Nat) : l.getD s 0 ≤ B := by
 by_cases hs : s < l.length
 · rw [Pf.getD_eq hs]; exact h _ (List.getElem_mem hs)
 · rw [List.getD_eq_getElem?_getD, List.getElem?_eq_none (by omega)]; exact Nat.zero_le _
set_option maxHeartbeats 2000000 in
set_option maxRecDepth 4000 in
theorem ownLengths_ret (p : Value) (ts : List Nat) (w : World) (hr : RdL i64 w p (nz ts)) (htk : ∀ t ∈ ts, Df.Tok t) (hl : ts.length ≤ 1000000) :
  Ret Tryz.prog 82 #[p] w fun v w' => ∃ v2 v3, v = .tuple #[v2, v3] ∧ M w Nn w' [Rg.sl i64 3 v2 (nz (Df.oln (Df.fql ts) 15)), Rg.sl i64 3 v3 (nz (Df.oln (Df.fqd ts) 15))] := by
 have hM := M.start w
 refine enter Tryz.func82 rfl (by kernel_rfl) Tryz.ntmps82 rfl ?_
 refine C.seq <| C.region <| E.asg rfl rfl <| E.asg rfl rfl <| E.nil <| X.next <| ?_

 refine C.cut2 [(0, _)] rfl (fun (v8 : Value) (v9 : Value) => [(4, v8), (5, v9)]) (fun (v8 : Value) (v9 : Value) w' => M w (Nn) w' [Rg.sl i64 3 v8 (nz (List.replicate 286 0)), Rg.sl i64 3 v9 (nz (List.replicate 30 0))]) ?_ ?_
 ·
  refine C.heldE (by kernel_rfl) fun wh0 hwh0 _ => ?_
  have hS := hwh0
  have hM0 := hM
  have hM := M.ofExt hwh0
  refine H.two 0 1 rfl rfl (by kernel_rfl) ?_ ?_
  ·
   refine E.makeM (by_ := 8) (enc := i64) 0 hM rfl Tryz.underlying86 (by kernel_rfl) rfl (by (simp only [List.length_replicate, List.length_append, List.length_set, List.length_cons, List.length_nil, List.length_map, List.length_range, List.length_take, List.length_drop, List.length_zipWith] at *; omega)) (by (simp only [List.length_replicate, List.length_append, List.length_set, List.length_cons, List.length_nil, List.length_map, List.length_range, List.length_take, List.length_drop, List.length_zipWith] at *; omega)) rfl ?_
   intro v8 w1 hM
   try dsimp only [Za, Zb, Zc, Zd, repl] at hM
   have hS := hM.toExt
   refine H.back hS ?_
   refine H.take 2 rfl rfl (by kernel_rfl) (by kernel_rfl) (by kernel_rfl) hS (fun w' hS => by have hM := hM0.ext hS; exact Y.asg rfl) rfl ?_
   refine H.only 1 rfl (by kernel_rfl) ?_
   refine E.makeM (by_ := 8) (enc := i64) 0 hM rfl Tryz.underlying86 (by kernel_rfl) rfl (by (simp only [List.length_replicate, List.length_append, List.length_set, List.length_cons, List.length_nil, List.length_map, List.length_range, List.length_take, List.length_drop, List.length_zipWith] at *; omega)) (by (simp only [List.length_replicate, List.length_append, List.length_set, List.length_cons, List.length_nil, List.length_map, List.length_range, List.length_take, List.length_drop, List.length_zipWith] at *; omega)) rfl ?_
   intro v9 w2 hM
   try dsimp only [Za, Zb, Zc, Zd, repl] at hM
   have hS := hM.toExt
   refine H.back hS ?_
   refine H.take 3 rfl rfl (by kernel_rfl) (by kernel_rfl) (by kernel_rfl) hS (fun w' hS => by have hM := hM0.ext hS; exact Y.asg rfl) rfl ?_
   refine H.done (by kernel_rfl) ?_
   have hM := hM0.call hM

   refine X.join2 v8 v9 (Sub.cons rfl <| Sub.cons rfl <| Sub.nil _) rfl (hM.to (by rw [nz_rep, nz_rep]; rfl))
  ·
   refine E.makeM (by_ := 8) (enc := i64) 0 hM rfl Tryz.underlying86 (by kernel_rfl) rfl (by (simp only [List.length_replicate, List.length_append, List.length_set, List.length_cons, List.length_nil, List.length_map, List.length_range, List.length_take, List.length_drop, List.length_zipWith] at *; omega)) (by (simp only [List.length_replicate, List.length_append, List.length_set, List.length_cons, List.length_nil, List.length_map, List.length_range, List.length_take, List.length_drop, List.length_zipWith] at *; omega)) rfl ?_
   intro v9 w3 hM
   try dsimp only [Za, Zb, Zc, Zd, repl] at hM
   have hS := hM.toExt
   refine H.back hS ?_
   refine H.only 0 rfl (by kernel_rfl) ?_
   refine E.makeM (by_ := 8) (enc := i64) 0 hM rfl Tryz.underlying86 (by kernel_rfl) rfl (by (simp only [List.length_replicate, List.length_append, List.length_set, List.length_cons, List.length_nil, List.length_map, List.length_range, List.length_take, List.length_drop, List.length_zipWith] at *; omega)) (by (simp only [List.length_replicate, List.length_append, List.length_set, List.length_cons, List.length_nil, List.length_map, List.length_range, List.length_take, List.length_drop, List.length_zipWith] at *; omega)) rfl ?_
   intro v8 w4 hM
   try dsimp only [Za, Zb, Zc, Zd, repl] at hM
   have hS := hM.toExt
   refine H.back hS ?_
   refine H.take 2 rfl rfl (by kernel_rfl) (by kernel_rfl) (by kernel_rfl) hS (fun w' hS => by have hM := hM0.ext hS; exact Y.asg rfl) rfl ?_
   refine H.take 3 rfl rfl (by kernel_rfl) (by kernel_rfl) (by kernel_rfl) hS (fun w' hS => by have hM := hM0.ext hS; exact Y.asg rfl) rfl ?_
   refine H.done (by kernel_rfl) ?_
   have hM := hM0.call hM

   refine X.join2 v8 v9 (Sub.cons rfl <| Sub.cons rfl <| Sub.nil _) rfl ((hM.pick [1, 0] (by decide)).to (by rw [nz_rep, nz_rep]; rfl))
 rintro v8 v9 w5 hM
 refine C.seq <| C.region <| E.mv rfl rfl <| ?_
 refine E.idx1 (k := 256) rfl rfl (hM.sl 0 rfl) rfl (by rw [nz_len, List.length_replicate]; omega) Tryz.underlying86 (by kernel_rfl) rfl ?_
 refine E.storeL (enc := i64) 0 ((1 : Nat) : Int) hM rfl rfl rfl (by kernel_rfl) rfl rfl (by rw [nz_len, List.length_replicate]; omega) ?_
 intro w6 hM
 try dsimp only [Za, Zb, Zc, Zd, repl] at hM
 rw [nz_set] at hM
 refine E.nil <| X.next <| C.seq <| C.seq <| C.region <| E.mv rfl rfl <| ?_
 refine E.lenv rfl (Rd.shape (hM.arg0 hr)) Tryz.underlying86 rfl ?_
 rw [nz_len]
 refine E.mv rfl rfl <| E.nil <| X.next <| C.block <| ?_

 refine C.loop1 [(4, _), (5, _), (12, _), (13, _)] rfl (fun (i : Nat) => [(14, i64 i)]) (fun (i : Nat) w' => M w (Nn) w' [Rg.sl i64 3 v8 (nz (Df.fql (ts.take i))), Rg.sl i64 3 v9 (nz (Df.fqd (ts.take i)))] ∧ i ≤ ts.length) (fun (i : Nat) => ts.length - i) 0 ?_ ?_ ?_
 · exact Sub.cons rfl <| Sub.nil _
 · exact ⟨hM, Nat.zero_le _⟩
 rintro i w7 ⟨hM, hi⟩
 refine C.seq <| C.region <| E.bin rfl rfl rfl rfl <| E.nil <| X.next <| C.seq <| ?_
 refine C.cond' rfl (fun hC0 => ?_) (fun hC0 => ?_)
 ·
  have hi' : i < ts.length := by omega
  obtain ⟨t, hte⟩ : ∃ t, t = ts[i] := ⟨_, rfl⟩
  have htt := htk ts[i] (List.getElem_mem hi')
  have hsn := Df.fql_snoc hi'
  have hln := Df.fql_len (ts.take i)
  have hdn := Df.fqd_len (ts.take i)
  have hlb := Df.fql_bd (ts.take i)
  have hdb := Df.fqd_bd (ts.take i)
  have htl : (ts.take i).length ≤ 1000000 := by rw [List.length_take]; omega
  rw [← hte] at htt hsn
  refine C.skip <| X.next <| ?_

  refine C.cut0 [(4, _), (5, _), (12, _), (13, _), (14, _)] rfl [] (fun w' => M w (Nn) w' [Rg.sl i64 3 v8 (nz (Df.fql (ts.take (i + 1)))), Rg.sl i64 3 v9 (nz (Df.fqd (ts.take (i + 1))))]) ?_ ?_
  ·
   refine C.block <| C.seq <| C.region <| ?_
   refine E.get (k := i) rfl rfl (hM.arg0 hr) rfl (by rw [nz_len]; omega) Tryz.underlying86 (by kernel_rfl) Tryz.underlying3 rfl rfl rfl ?_
   rw [nz_get hi', ← hte]
   refine E.asg rfl rfl <| E.nil <| X.next <| C.seq <| C.region <| E.mv rfl rfl <| E.bin rfl rfl rfl rfl <| E.nil <| X.next <| ?_
   refine C.cond' rfl (fun hC1 => ?_) (fun hC1 => ?_)
   ·
    have h255 : ¬ t ≤ 255 := by omega
    obtain ⟨h3, h258, hd1, hd2⟩ := htt.resolve_left h255
    obtain ⟨ga, gb, gc, gd⟩ := Df.lsy_spec h3 h258
    obtain ⟨ka, kb, kc⟩ := Df.dsy_spec hd1 hd2
    have htb : t ≤ 16973823 := by omega
    have hmt := Df.fqd_mat hi' (by rw [← hte]; exact h255)
    rw [← hte] at hmt
    rw [Df.lsm, if_neg h255] at hsn
    refine C.seq <| C.region <| E.mv rfl rfl <| E.mv rfl rfl <| ?_
    refine E.shr rfl rfl (by decide) (shr16 t) rfl ?_
    refine E.call rfl rfl (lengthSymbol_ret (t / 65536) _ h3 h258) ?_
    rintro _ w2 ⟨rfl, x2⟩
    have hM := hM.ext x2
    try dsimp only [Za, Zb, Zc, Zd, repl] at hM
    refine E.get (k := (Df.lsy (t / 65536))) rfl rfl (hM.sl 0 rfl) rfl (by rw [nz_len]; omega) Tryz.underlying86 (by kernel_rfl) Tryz.underlying3 rfl rfl rfl ?_
    rw [nz_gd]
    refine E.addN (a := (Df.fql (ts.take i)).getD (Df.lsy (t / 65536)) 0) (b := 1) rfl rfl (by have := gdB hlb ((Df.lsy (t / 65536))); omega) rfl ?_
    refine E.idx1 (k := (Df.lsy (t / 65536))) rfl rfl (hM.sl 0 rfl) rfl (by rw [nz_len]; omega) Tryz.underlying86 (by kernel_rfl) rfl ?_
    refine E.storeL (enc := i64) 0 (((Df.fql (ts.take i)).getD (Df.lsy (t / 65536)) 0 + 1 : Nat) : Int) hM rfl rfl rfl (by kernel_rfl) rfl rfl (by rw [nz_len]; omega) ?_
    intro w9 hM
    try dsimp only [Za, Zb, Zc, Zd, repl] at hM
    rw [Df.nz_bmp] at hM
    refine E.nil <| X.next <| C.region <| E.mv rfl rfl <| E.mv rfl rfl <| ?_
    refine E.binw rfl rfl rfl (congrArg _ (low16 t (by omega))) rfl ?_
    refine E.call rfl rfl (distanceSymbol_ret (t % 65536) _ hd1) ?_
    rintro _ w3 ⟨rfl, x3⟩
    have hM := hM.ext x3
    try dsimp only [Za, Zb, Zc, Zd, repl] at hM
    refine E.get (k := (Df.dsy (t % 65536))) rfl rfl (hM.sl 1 rfl) rfl (by rw [nz_len]; omega) Tryz.underlying86 (by kernel_rfl) Tryz.underlying3 rfl rfl rfl ?_
    rw [nz_gd]
    refine E.addN (a := (Df.fqd (ts.take i)).getD (Df.dsy (t % 65536)) 0) (b := 1) rfl rfl (by have := gdB hdb ((Df.dsy (t % 65536))); omega) rfl ?_
    refine E.idx1 (k := (Df.dsy (t % 65536))) rfl rfl (hM.sl 1 rfl) rfl (by rw [nz_len]; omega) Tryz.underlying86 (by kernel_rfl) rfl ?_
    refine E.storeL (enc := i64) 1 (((Df.fqd (ts.take i)).getD (Df.dsy (t % 65536)) 0 + 1 : Nat) : Int) hM rfl rfl rfl (by kernel_rfl) rfl rfl (by rw [nz_len]; omega) ?_
    intro w11 hM
    try dsimp only [Za, Zb, Zc, Zd, repl] at hM
    rw [Df.nz_bmp] at hM

    refine E.nil <| X.outN <| X.join0  (Sub.nil _) rfl (hM.to (by rw [hsn, hmt]))
   ·
    have h255 : t ≤ 255 := by omega
    rw [Df.lsm, if_pos h255] at hsn
    have hlt := Df.fqd_lit hi' (by rw [← hte]; exact h255)
    refine C.region <| E.mv rfl rfl <| E.mv rfl rfl <| ?_
    refine E.get (k := t) rfl rfl (hM.sl 0 rfl) rfl (by rw [nz_len]; omega) Tryz.underlying86 (by kernel_rfl) Tryz.underlying3 rfl rfl rfl ?_
    rw [nz_gd]
    refine E.addN (a := (Df.fql (ts.take i)).getD t 0) (b := 1) rfl rfl (by have := gdB hlb (t); omega) rfl ?_
    refine E.idx1 (k := t) rfl rfl (hM.sl 0 rfl) rfl (by rw [nz_len]; omega) Tryz.underlying86 (by kernel_rfl) rfl ?_
    refine E.storeL (enc := i64) 0 (((Df.fql (ts.take i)).getD t 0 + 1 : Nat) : Int) hM rfl rfl rfl (by kernel_rfl) rfl rfl (by rw [nz_len]; omega) ?_
    intro w12 hM
    try dsimp only [Za, Zb, Zc, Zd, repl] at hM
    rw [Df.nz_bmp] at hM

    refine E.nil <| X.outN <| X.join0  (Sub.nil _) rfl (hM.to (by rw [hsn, hlt]))
  rintro  w13 hM
  refine C.region <| ?_
  refine E.add rfl rfl (by omega) rfl ?_

  refine E.mv rfl rfl <| E.nil <| X.again1 (i + 1) (Sub.cons rfl <| Sub.nil _) rfl ⟨hM, by omega⟩ (by omega)
 ·
  obtain rfl : i = ts.length := by omega
  rw [List.take_length] at hM
  refine C.exit <| X.exitT <| X.exitT <| X.outE <| X.next <| C.seq <| C.region <| E.mv rfl rfl <| ?_
  refine E.call rfl rfl (Lengths_ret v8 (nz (Df.fql ts)) 15 _ (hM.sl 0 rfl)) ?_
  rintro _ w5 ⟨v45, rfl, m⟩
  have hM := hM.call m
  rw [show lnv (nz (Df.fql ts)) 15 = _ from (Df.oln_law (fs := Df.fql ts) (m := 15) (by decide) (by decide) (fun n hn => by have := Df.fql_bd ts n hn; omega) (by rw [Df.fql_len]; decide) (by rw [Df.fql_len]; decide)).1] at hM
  try dsimp only [Za, Zb, Zc, Zd, repl] at hM
  refine E.mv rfl rfl <| E.ext rfl rfl rfl <| E.ext rfl rfl rfl <| E.asg rfl rfl <| E.nil <| X.next <| C.seq <| C.region <| E.mv rfl rfl <| ?_
  refine E.call rfl rfl (Lengths_ret v9 (nz (Df.fqd ts)) 15 _ (hM.sl 1 rfl)) ?_
  rintro _ w6 ⟨v50, rfl, m⟩
  have hM := hM.call m
  rw [show lnv (nz (Df.fqd ts)) 15 = _ from (Df.oln_law (fs := Df.fqd ts) (m := 15) (by decide) (by decide) (fun n hn => by have := Df.fqd_bd ts n hn; omega) (by rw [Df.fqd_len]; decide) (by rw [Df.fqd_len]; decide)).1] at hM
  try dsimp only [Za, Zb, Zc, Zd, repl] at hM
  refine E.mv rfl rfl <| E.ext rfl rfl rfl <| E.ext rfl rfl rfl <| E.asg rfl rfl <| E.nil <| X.next <| C.seq <| C.region <| E.mv rfl rfl <| E.mv rfl rfl <| E.asg rfl rfl <| E.asg rfl rfl <| E.nil <| X.next <| C.ret <| ret2 rfl rfl rfl ?_
  exact ⟨_, _, rfl, hM.pick [2, 3] (by decide)⟩
theorem cut_ret (p : Value) (l : List Nat) (least : Nat) (w : World) (hr : RdL i64 w p (nz l)) :
  Ret Tryz.prog 107 #[p, i64 least] w fun v w' => v = partV p 0 (Df.ctn l least) ∧ Ext w w' := by
 have hM := M.start w
 refine enter Tryz.func107 rfl (by kernel_rfl) Tryz.ntmps107 rfl ?_
 refine C.seq <| C.region <| E.asg rfl rfl <| E.nil <| X.next <| C.seq <| C.region <| E.mv rfl rfl <| ?_
 refine E.lenv rfl (Rd.shape (hM.arg0 hr)) Tryz.underlying86 rfl ?_
 rw [nz_len]
 have hle := Rd.le hr
 have hnl := nz_len l
 refine E.asg rfl rfl <| E.nil <| X.next <| C.seq <| C.block <| ?_

 refine C.loop1 [(0, _), (1, _)] rfl (fun (n : Nat) => [(5, i64 n)]) (fun (n : Nat) w' => M w (Nn) w' [] ∧ n ≤ l.length ∧ Df.ctg l least n = Df.ctn l least) (fun (n : Nat) => n) l.length ?_ ?_ ?_
 · exact Sub.cons rfl <| Sub.nil _
 · exact ⟨hM, Nat.le_refl _, rfl⟩
 rintro n w0 ⟨hM, hn, hc⟩
 refine C.seq <| ?_

 refine C.chainE [(0, _), (1, _), (5, _)] rfl [(18, .bool (decide (least < n ∧ l.getD (n - 1) 0 = 0)))] ?_ ?_
 ·
  refine C.region <| E.mv rfl rfl <| E.mv rfl rfl <| E.bin rfl rfl rfl rfl <| E.mv rfl rfl <| ?_
  refine E.split 11 rfl (fun g11 => ?_) (fun g11 => ?_)
  ·
   try simp only [Ya, Yb, Yc, Yd, Ye, Yf] at g11
   refine E.on rfl rfl (E.mv rfl rfl ?_)
   refine E.on rfl rfl (E.mv rfl rfl ?_)
   refine E.on rfl rfl (E.subN (a := n) (b := 1) rfl rfl (by omega) rfl ?_)
   refine E.on rfl rfl (E.idx1 (k := n - 1) rfl rfl (hM.arg0 hr) rfl (by omega) Tryz.underlying86 (by kernel_rfl) rfl ?_)
   refine E.on rfl rfl (E.load rfl Tryz.underlying3 rfl ((hM.arg0 hr).cellA rfl (by omega)) rfl ?_)
   rw [nz_gd]
   refine E.on rfl rfl (E.bin rfl rfl rfl rfl ?_)
   refine E.pick rfl rfl rfl <| E.nil <| X.join0 (Sub.cons (by exact leaf_d (by omega)) <| Sub.nil _) rfl rfl
  ·
   try simp only [Ya, Yb, Yc, Yd, Ye, Yf] at g11
   refine E.off rfl rfl rfl rfl <| E.off rfl rfl rfl rfl <| E.off rfl rfl rfl rfl <| E.off rfl rfl rfl rfl <| E.off rfl rfl rfl rfl <| E.off rfl rfl rfl rfl <| E.pick rfl rfl rfl <| E.nil <| X.join0 (Sub.cons (by exact leaf_f (by omega)) <| Sub.nil _) rfl rfl
 refine C.cond' rfl (fun hC0 => ?_) (fun hC0 => ?_)
 ·
  obtain ⟨q, rfl⟩ : ∃ q, n = q + 1 := ⟨n - 1, by omega⟩
  rw [Nat.add_sub_cancel] at hC0
  rw [Df.ctg, if_pos hC0] at hc
  refine C.skip <| X.next <| C.block <| C.region <| E.mv rfl rfl <| ?_
  refine E.subN (a := q + 1) (b := 1) rfl rfl (by omega) rfl ?_

  refine E.asg rfl rfl <| E.nil <| X.outN <| X.again1 q (Sub.cons rfl <| Sub.nil _) rfl ⟨hM, by omega, hc⟩ (by omega)
 ·
  have hfin : Df.ctn l least = n := by
   cases n with
   | zero => rw [← hc]; rfl
   | succ q => rw [Nat.add_sub_cancel] at hC0; rw [← hc, Df.ctg, if_neg hC0]
  refine C.exit <| X.exitT <| X.exitT <| X.outE <| X.next <| C.seq <| C.region <| E.mv rfl rfl <| E.mv rfl rfl <| ?_
  refine E.slcP (k := .i64) 0 n rfl (.inr ⟨rfl, rfl⟩) (.inl rfl) (hM.arg0 hr) Tryz.underlying86 (by kernel_rfl) (by omega) (by omega) rfl ?_
  refine E.asg rfl rfl <| E.nil <| X.next <| C.ret <| ret1 rfl rfl ?_
  exact ⟨by rw [hfin], hM.toExt⟩
set_option maxHeartbeats 1000000 in
theorem appendZeros_ret (p : Value) (xs : List Stp) (n : Nat) (w : World) (hs : Sep w [Rg.slF es 3 133 p xs]) (hl : xs.length + n ≤ 1000000) :
  Ret Tryz.prog 148 #[p, i64 n] w fun v w' => M w (fpU [Rg.slF es 3 133 p xs]) w' [Rg.slF es 3 133 v (xs ++ Df.zer n)] := by
 have hM := M.startS hs
 refine enter Tryz.func148 rfl (by kernel_rfl) Tryz.ntmps148 rfl ?_
 refine C.seq <| C.region <| E.asg rfl rfl <| E.nil <| X.next <| C.seq <| C.block <| ?_

 refine C.loop3 [] rfl (fun (m : Nat) (ys : (List Stp)) (vo : Value) => [(0, vo), (1, i64 m)]) (fun (m : Nat) (ys : (List Stp)) (vo : Value) w' => M w (fpU [Rg.slF es 3 133 p xs]) w' [Rg.slF es 3 133 vo ys] ∧ ys.length + m ≤ 1000000 ∧ xs ++ Df.zer n = ys ++ Df.zer m) (fun (m : Nat) (ys : (List Stp)) (vo : Value) => m) n xs p ?_ ?_ ?_
 · exact Sub.cons rfl <| Sub.cons rfl <| Sub.nil _
 · exact ⟨hM, hl, rfl⟩
 rintro m ys vo w0 ⟨hM, hy, hz⟩
 refine C.seq <| C.seq <| C.region <| E.mv rfl rfl <| E.bin rfl rfl rfl rfl <| E.nil <| X.next <| ?_
 refine C.cond' rfl (fun hC0 => ?_) (fun hC0 => ?_)
 ·
  rw [Df.zer_big (n := m) (by omega)] at hz
  refine C.skip <| X.next <| C.block <| C.seq <| C.region <| E.mv rfl rfl <| ?_
  refine E.min2 rfl rfl rfl ?_
  rw [show min (m : Int) 138 = ((min m 138 : Nat) : Int) by omega]
  refine E.asg rfl rfl <| E.nil <| X.next <| C.seq <| C.region <| E.mv rfl rfl <| E.mv rfl rfl <| ?_
  refine E.subN (a := min m 138) (b := 11) rfl rfl (by omega) rfl ?_
  refine E.buildC (cs := [_, _, _]) [.int .i64 0, .int .i64 0, .int .i64 0] [0, 1, 2] rfl rfl (by kernel_rfl) rfl ?_
  refine E.pushFM 0 (18, min m 138 - 11, 7) hM rfl rfl rfl Tryz.underlying130 elem_Tdeflate_step rfl (by decide) (es_one _) (by omega) (by omega) (by simp) rfl rfl ?_
  intro v15 u15 w1 hM
  try dsimp only [Za, Zb, Zc, Zd, repl] at hM
  refine E.asg rfl rfl <| E.nil <| X.next <| C.region <| E.mv rfl rfl <| E.mv rfl rfl <| ?_
  refine E.subN (a := m) (b := min m 138) rfl rfl (by omega) rfl ?_

  refine E.asg rfl rfl <| E.nil <| X.outN <| X.again3 (m - min m 138) (ys ++ [(18, min m 138 - 11, 7)]) v15 (Sub.cons rfl <| Sub.cons rfl <| Sub.nil _) rfl ⟨hM, by rw [List.length_append, List.length_singleton]; omega, by rw [hz, List.append_assoc]; rfl⟩ (by omega)
 ·
  refine C.exit <| X.exitT <| X.exitT <| X.outE <| X.next <| ?_

  refine C.cut3 [] rfl (fun (k : Nat) (ys : (List Stp)) (vo : Value) => [(0, vo), (1, i64 k)]) (fun (k : Nat) (ys : (List Stp)) (vo : Value) w' => M w (fpU [Rg.slF es 3 133 p xs]) w' [Rg.slF es 3 133 vo ys] ∧ ys.length + k ≤ 1000000 ∧ xs ++ Df.zer n = ys ++ List.replicate k (0, 0, 0)) ?_ ?_
  ·
   refine C.seq <| C.region <| E.mv rfl rfl <| E.bin rfl rfl rfl rfl <| E.nil <| X.next <| ?_
   refine C.cond' rfl (fun hC1 => ?_) (fun hC1 => ?_)
   ·
    rw [Df.zer_mid (n := m) (by omega) (by omega)] at hz
    refine C.seq <| C.region <| E.mv rfl rfl <| E.mv rfl rfl <| ?_
    refine E.subN (a := m) (b := 3) rfl rfl (by omega) rfl ?_
    refine E.buildC (cs := [_, _, _]) [.int .i64 0, .int .i64 0, .int .i64 0] [0, 1, 2] rfl rfl (by kernel_rfl) rfl ?_
    refine E.pushFM 0 (17, m - 3, 3) hM rfl rfl rfl Tryz.underlying130 elem_Tdeflate_step rfl (by decide) (es_one _) (by omega) (by omega) (by simp) rfl rfl ?_
    intro v26 u26 w2 hM
    try dsimp only [Za, Zb, Zc, Zd, repl] at hM

    refine E.asg rfl rfl <| E.nil <| X.next <| C.region <| E.asg rfl rfl <| E.nil <| X.join3 0 (ys ++ [(17, m - 3, 3)]) v26 (Sub.cons rfl <| Sub.cons rfl <| Sub.nil _) rfl ⟨hM, by rw [List.length_append, List.length_singleton]; omega, by rw [hz]; simp⟩
   ·
    rw [Df.zer_few (n := m) (by omega)] at hz

    refine C.skip <| X.join3 m ys vo (Sub.cons rfl <| Sub.cons rfl <| Sub.nil _) rfl ⟨hM, hy, hz⟩
  rintro k ys vo w3 ⟨hM, hy, hz⟩
  refine C.seq <| C.seq <| C.region <| E.mv rfl rfl <| E.mv rfl rfl <| E.nil <| X.next <| C.block <| ?_

  refine C.loop2 [(27, _)] rfl (fun (q : Nat) (vq : Value) => [(0, vq), (28, i64 q)]) (fun (q : Nat) (vq : Value) w' => M w (fpU [Rg.slF es 3 133 p xs]) w' [Rg.slF es 3 133 vq (ys ++ List.replicate q (0, 0, 0))] ∧ q ≤ k) (fun (q : Nat) (vq : Value) => k - q) 0 vo ?_ ?_ ?_
  · exact Sub.cons rfl <| Sub.cons rfl <| Sub.nil _
  · exact ⟨hM.to (by rw [List.replicate_zero, List.append_nil]), Nat.zero_le _⟩
  rintro q vq w4 ⟨hM, hq⟩
  refine C.seq <| C.region <| E.bin rfl rfl rfl rfl <| E.nil <| X.next <| C.seq <| ?_
  refine C.cond' rfl (fun hC2 => ?_) (fun hC2 => ?_)
  ·
   refine C.skip <| X.next <| C.seq <| C.block <| C.region <| E.mv rfl rfl <| ?_
   refine E.buildC (cs := [_, _, _]) [.int .i64 0, .int .i64 0, .int .i64 0] [] rfl rfl (by kernel_rfl) rfl ?_
   refine E.pushFM 0 (0, 0, 0) hM rfl rfl rfl Tryz.underlying130 elem_Tdeflate_step rfl (by decide) (es_one _) (by rw [List.length_append, List.length_replicate]; omega) (by rw [List.length_append, List.length_replicate]; omega) (by simp) rfl rfl ?_
   intro v33 u33 w5 hM
   try dsimp only [Za, Zb, Zc, Zd, repl] at hM
   refine E.asg rfl rfl <| E.nil <| X.outN <| X.next <| C.region <| ?_
   refine E.addN (a := q) (b := 1) rfl rfl (by omega) rfl ?_

   refine E.mv rfl rfl <| E.nil <| X.again2 (q + 1) v33 (Sub.cons rfl <| Sub.cons rfl <| Sub.nil _) rfl ⟨hM.to (by rw [List.append_assoc, ← List.replicate_succ']), by omega⟩ (by omega)
  ·
   obtain rfl : q = k := by omega
   refine C.exit <| X.exitT <| X.exitT <| X.outE <| X.next <| C.seq <| C.region <| E.mv rfl rfl <| E.asg rfl rfl <| E.nil <| X.next <| C.ret <| ret1 rfl rfl ?_
   exact hM.to (by rw [hz])
set_option maxHeartbeats 1000000 in
theorem appendEqual_ret (p : Value) (xs : List Stp) (x n : Nat) (w : World) (hs : Sep w [Rg.slF es 3 133 p xs]) (hl : xs.length + n ≤ 1000000) (hn : 1 ≤ n) :
  Ret Tryz.prog 149 #[p, i64 x, i64 n] w fun v w' => M w (fpU [Rg.slF es 3 133 p xs]) w' [Rg.slF es 3 133 v (xs ++ Df.eqs x n)] := by
 have hM := M.startS hs
 refine enter Tryz.func149 rfl (by kernel_rfl) Tryz.ntmps149 rfl ?_
 refine C.seq <| C.region <| E.asg rfl rfl <| E.nil <| X.next <| C.seq <| C.region <| E.mv rfl rfl <| E.mv rfl rfl <| ?_
 refine E.buildC (cs := [_, _, _]) [.int .i64 0, .int .i64 0, .int .i64 0] [0] rfl rfl (by kernel_rfl) rfl ?_
 refine E.pushFM 0 (x, 0, 0) hM rfl rfl rfl Tryz.underlying130 elem_Tdeflate_step rfl (by decide) (es_one _) (by omega) (by omega) (by simp) rfl rfl ?_
 intro v12 u12 w0 hM
 try dsimp only [Za, Zb, Zc, Zd, repl] at hM
 refine E.asg rfl rfl <| E.nil <| X.next <| C.seq <| C.region <| E.mv rfl rfl <| ?_
 refine E.subN (a := n) (b := 1) rfl rfl (by omega) rfl ?_
 refine E.asg rfl rfl <| E.nil <| X.next <| C.seq <| C.block <| ?_

 refine C.loop3 [(1, _)] rfl (fun (m : Nat) (ys : (List Stp)) (vo : Value) => [(0, vo), (2, i64 m)]) (fun (m : Nat) (ys : (List Stp)) (vo : Value) w' => M w (fpU [Rg.slF es 3 133 p xs]) w' [Rg.slF es 3 133 vo ys] ∧ ys.length + m ≤ 1000000 ∧ xs ++ Df.eqs x n = ys ++ Df.eqr x m) (fun (m : Nat) (ys : (List Stp)) (vo : Value) => m) (n - 1) (xs ++ [(x, 0, 0)]) v12 ?_ ?_ ?_
 · exact Sub.cons rfl <| Sub.cons rfl <| Sub.nil _
 · exact ⟨hM, by rw [List.length_append, List.length_singleton]; omega, by rw [Df.eqs, List.append_assoc]; rfl⟩
 rintro m ys vo w1 ⟨hM, hy, hz⟩
 refine C.seq <| C.seq <| C.region <| E.mv rfl rfl <| E.bin rfl rfl rfl rfl <| E.nil <| X.next <| ?_
 refine C.cond' rfl (fun hC0 => ?_) (fun hC0 => ?_)
 ·
  rw [Df.eqr_big (n := m) (by omega)] at hz
  refine C.skip <| X.next <| C.block <| C.seq <| C.region <| E.mv rfl rfl <| ?_
  refine E.min2 rfl rfl rfl ?_
  rw [show min (m : Int) 6 = ((min m 6 : Nat) : Int) by omega]
  refine E.asg rfl rfl <| E.nil <| X.next <| C.seq <| C.region <| E.mv rfl rfl <| E.mv rfl rfl <| ?_
  refine E.subN (a := min m 6) (b := 3) rfl rfl (by omega) rfl ?_
  refine E.buildC (cs := [_, _, _]) [.int .i64 0, .int .i64 0, .int .i64 0] [0, 1, 2] rfl rfl (by kernel_rfl) rfl ?_
  refine E.pushFM 0 (16, min m 6 - 3, 2) hM rfl rfl rfl Tryz.underlying130 elem_Tdeflate_step rfl (by decide) (es_one _) (by omega) (by omega) (by simp) rfl rfl ?_
  intro v24 u24 w2 hM
  try dsimp only [Za, Zb, Zc, Zd, repl] at hM
  refine E.asg rfl rfl <| E.nil <| X.next <| C.region <| E.mv rfl rfl <| E.mv rfl rfl <| ?_
  refine E.subN (a := m) (b := min m 6) rfl rfl (by omega) rfl ?_

  refine E.asg rfl rfl <| E.nil <| X.outN <| X.again3 (m - min m 6) (ys ++ [(16, min m 6 - 3, 2)]) v24 (Sub.cons rfl <| Sub.cons rfl <| Sub.nil _) rfl ⟨hM, by rw [List.length_append, List.length_singleton]; omega, by rw [hz, List.append_assoc]; rfl⟩ (by omega)
 ·
  rw [Df.eqr_few (n := m) (by omega)] at hz
  refine C.exit <| X.exitT <| X.exitT <| X.outE <| X.next <| C.seq <| C.seq <| C.region <| E.mv rfl rfl <| E.mv rfl rfl <| E.nil <| X.next <| C.block <| ?_

  refine C.loop2 [(1, _), (28, _)] rfl (fun (q : Nat) (vq : Value) => [(0, vq), (29, i64 q)]) (fun (q : Nat) (vq : Value) w' => M w (fpU [Rg.slF es 3 133 p xs]) w' [Rg.slF es 3 133 vq (ys ++ List.replicate q (x, 0, 0))] ∧ q ≤ m) (fun (q : Nat) (vq : Value) => m - q) 0 vo ?_ ?_ ?_
  · exact Sub.cons rfl <| Sub.cons rfl <| Sub.nil _
  · exact ⟨hM.to (by rw [List.replicate_zero, List.append_nil]), Nat.zero_le _⟩
  rintro q vq w3 ⟨hM, hq⟩
  refine C.seq <| C.region <| E.bin rfl rfl rfl rfl <| E.nil <| X.next <| C.seq <| ?_
  refine C.cond' rfl (fun hC1 => ?_) (fun hC1 => ?_)
  ·
   refine C.skip <| X.next <| C.seq <| C.block <| C.region <| E.mv rfl rfl <| E.mv rfl rfl <| ?_
   refine E.buildC (cs := [_, _, _]) [.int .i64 0, .int .i64 0, .int .i64 0] [0] rfl rfl (by kernel_rfl) rfl ?_
   refine E.pushFM 0 (x, 0, 0) hM rfl rfl rfl Tryz.underlying130 elem_Tdeflate_step rfl (by decide) (es_one _) (by rw [List.length_append, List.length_replicate]; omega) (by rw [List.length_append, List.length_replicate]; omega) (by simp) rfl rfl ?_
   intro v35 u35 w4 hM
   try dsimp only [Za, Zb, Zc, Zd, repl] at hM
   refine E.asg rfl rfl <| E.nil <| X.outN <| X.next <| C.region <| ?_
   refine E.addN (a := q) (b := 1) rfl rfl (by omega) rfl ?_

   refine E.mv rfl rfl <| E.nil <| X.again2 (q + 1) v35 (Sub.cons rfl <| Sub.cons rfl <| Sub.nil _) rfl ⟨hM.to (by rw [List.append_assoc, ← List.replicate_succ']), by omega⟩ (by omega)
  ·
   obtain rfl : q = m := by omega
   refine C.exit <| X.exitT <| X.exitT <| X.outE <| X.next <| C.seq <| C.region <| E.mv rfl rfl <| E.asg rfl rfl <| E.nil <| X.next <| C.ret <| ret1 rfl rfl ?_
   exact hM.to (by rw [hz])
set_option maxHeartbeats 1000000 in
theorem sequence_ret (p : Value) (l : List Nat) (w : World) (hr : RdL i64 w p (nz l)) (hl : l.length ≤ 1000) :
  Ret Tryz.prog 108 #[p] w fun v w' => M w Nn w' [Rg.slF es 3 133 v (Df.sq l 0)] := by
 have hM := M.start w
 refine enter Tryz.func108 rfl (by kernel_rfl) Tryz.ntmps108 rfl ?_
 refine C.seq <| C.region <| E.asg rfl rfl <| E.nil <| X.next <| C.seq <| C.region <| E.asg rfl rfl <| E.nil <| X.next <| C.seq <| C.seq <| C.region <| E.asg rfl rfl <| E.nil <| X.next <| C.block <| ?_
 have hM := hM.nilF es 3 133
 try dsimp only [Za, Zb, Zc, Zd, repl] at hM
 have hnl := nz_len l

 refine C.loop3 [(0, _)] rfl (fun (a : Nat) (xs : (List Stp)) (vo : Value) => [(3, vo), (4, i64 a)]) (fun (a : Nat) (xs : (List Stp)) (vo : Value) w' => M w (Nn) w' [Rg.slF es 3 133 vo xs] ∧ a ≤ l.length ∧ Df.sq l 0 = xs ++ Df.sq l a ∧ xs.length ≤ a) (fun (a : Nat) (xs : (List Stp)) (vo : Value) => l.length - a) 0 [] (.slice none 0 0) ?_ ?_ ?_
 · exact Sub.cons rfl <| Sub.cons rfl <| Sub.nil _
 · exact ⟨hM, Nat.zero_le _, rfl, Nat.le_refl _⟩
 rintro a xs vo w0 ⟨hM, ha, hsq, hxl⟩
 refine C.seq <| C.seq <| C.region <| E.mv rfl rfl <| E.mv rfl rfl <| ?_
 refine E.lenv rfl (Rd.shape (hM.arg0 hr)) Tryz.underlying86 rfl ?_
 rw [nz_len]
 refine E.bin rfl rfl rfl rfl <| E.nil <| X.next <| ?_
 refine C.cond' rfl (fun hC0 => ?_) (fun hC0 => ?_)
 ·
  have ha' : a < l.length := by omega
  rw [Df.sq_on ha'] at hsq
  obtain ⟨hr1, hr2, hr3⟩ := Df.rend_spec ha'
  refine C.skip <| X.next <| C.block <| C.seq <| C.region <| E.mv rfl rfl <| E.mv rfl rfl <| ?_
  refine E.get (k := a) rfl rfl (hM.arg0 hr) rfl (by omega) Tryz.underlying86 (by kernel_rfl) Tryz.underlying3 rfl rfl rfl ?_
  rw [nz_gd]
  refine E.mv rfl rfl <| E.asg rfl rfl <| E.asg rfl rfl <| E.nil <| X.next <| C.seq <| C.block <| ?_

  refine C.loop1 [(0, _), (3, _), (4, _), (5, _)] rfl (fun (e : Nat) => [(6, i64 e)]) (fun (e : Nat) w' => M w (Nn) w' [Rg.slF es 3 133 vo xs] ∧ a ≤ e ∧ e ≤ l.length ∧ Df.ren l (l.getD a 0) (l.length - e) e = Df.rend l a) (fun (e : Nat) => l.length - e) a ?_ ?_ ?_
  · exact Sub.cons rfl <| Sub.nil _
  · exact ⟨hM, Nat.le_refl _, ha, rfl⟩
  rintro e w1 ⟨hM, he1, he2, he⟩
  refine C.seq <| ?_

  refine C.chainE [(0, _), (3, _), (4, _), (5, _), (6, _)] rfl [(27, .bool (decide (e < l.length ∧ l.getD e 0 = l.getD a 0)))] ?_ ?_
  ·
   refine C.region <| E.mv rfl rfl <| E.mv rfl rfl <| ?_
   refine E.lenv rfl (Rd.shape (hM.arg0 hr)) Tryz.underlying86 rfl ?_
   rw [nz_len]
   refine E.bin rfl rfl rfl rfl <| E.mv rfl rfl <| ?_
   refine E.split 20 rfl (fun g20 => ?_) (fun g20 => ?_)
   ·
    try simp only [Ya, Yb, Yc, Yd, Ye, Yf] at g20
    refine E.on rfl rfl (E.mv rfl rfl ?_)
    refine E.on rfl rfl (E.mv rfl rfl ?_)
    refine E.on rfl rfl (E.idx1 (k := e) rfl rfl (hM.arg0 hr) rfl (by omega) Tryz.underlying86 (by kernel_rfl) rfl ?_)
    refine E.on rfl rfl (E.load rfl Tryz.underlying3 rfl ((hM.arg0 hr).cellA rfl (by omega)) rfl ?_)
    rw [nz_gd]
    refine E.on rfl rfl (E.mv rfl rfl ?_)
    refine E.on rfl rfl (E.bin rfl rfl rfl rfl ?_)
    refine E.pick rfl rfl rfl <| E.nil <| X.join0 (Sub.cons (by exact leaf_d (by omega)) <| Sub.nil _) rfl rfl
   ·
    try simp only [Ya, Yb, Yc, Yd, Ye, Yf] at g20
    refine E.off rfl rfl rfl rfl <| E.off rfl rfl rfl rfl <| E.off rfl rfl rfl rfl <| E.off rfl rfl rfl rfl <| E.off rfl rfl rfl rfl <| E.off rfl rfl rfl rfl <| E.pick rfl rfl rfl <| E.nil <| X.join0 (Sub.cons (by exact leaf_f (by omega)) <| Sub.nil _) rfl rfl
  refine C.cond' rfl (fun hC1 => ?_) (fun hC1 => ?_)
  ·
   have he' : Df.ren l (l.getD a 0) (l.length - (e + 1)) (e + 1) = Df.rend l a := by
    rw [← he, show l.length - e = l.length - (e + 1) + 1 by omega, Df.ren, if_pos hC1]
   refine C.skip <| X.next <| C.block <| C.region <| E.mv rfl rfl <| ?_
   refine E.addN (a := e) (b := 1) rfl rfl (by omega) rfl ?_

   refine E.asg rfl rfl <| E.nil <| X.outN <| X.again1 (e + 1) (Sub.cons rfl <| Sub.nil _) rfl ⟨hM, by omega, by omega, he'⟩ (by omega)
  ·
   have hee : Df.rend l a = e := by
    rw [← he]
    cases h : l.length - e with
    | zero => rfl
    | succ f => rw [Df.ren, if_neg hC1]
   rw [hee] at hsq hr1 hr2
   refine C.exit <| X.exitT <| X.exitT <| X.outE <| X.next <| ?_

   refine C.cut2 [(0, _), (6, _)] rfl (fun (ys : (List Stp)) (vq : Value) => [(3, vq)]) (fun (ys : (List Stp)) (vq : Value) w' => M w (Nn) w' [Rg.slF es 3 133 vq ys] ∧ Df.sq l 0 = ys ++ Df.sq l e ∧ ys.length ≤ e) ?_ ?_
   ·
    refine C.seq <| C.region <| E.mv rfl rfl <| E.bin rfl rfl rfl rfl <| E.nil <| X.next <| ?_
    refine C.cond' rfl (fun hC2 => ?_) (fun hC2 => ?_)
    ·
     have h0 : l.getD a 0 = 0 := by omega
     rw [if_pos h0] at hsq
     have hzl := Df.zer_len (e - a)
     refine C.region <| E.mv rfl rfl <| E.mv rfl rfl <| E.mv rfl rfl <| ?_
     refine E.subN (a := e) (b := a) rfl rfl (by omega) rfl ?_
     refine E.call rfl rfl (appendZeros_ret vo xs (e - a) _ (hM.pick [0] (by decide)).sep (by omega)) ?_
     rintro v36 w3 m
     have hM := hM.calls [0] (by decide) rfl (by simp) m
     try dsimp only [Za, Zb, Zc, Zd, repl] at hM

     refine E.asg rfl rfl <| E.nil <| X.join2 (xs ++ Df.zer (e - a)) v36 (Sub.cons rfl <| Sub.nil _) rfl ⟨hM, by rw [hsq, List.append_assoc], by rw [List.length_append]; omega⟩
    ·
     have h0 : ¬ l.getD a 0 = 0 := by omega
     rw [if_neg h0] at hsq
     have hzl := Df.eqr_len (l.getD a 0) (e - a - 1)
     refine C.region <| E.mv rfl rfl <| E.mv rfl rfl <| E.mv rfl rfl <| E.mv rfl rfl <| ?_
     refine E.subN (a := e) (b := a) rfl rfl (by omega) rfl ?_
     refine E.call rfl rfl (appendEqual_ret vo xs (l.getD a 0) (e - a) _ (hM.pick [0] (by decide)).sep (by omega) (by omega)) ?_
     rintro v42 w4 m
     have hM := hM.calls [0] (by decide) rfl (by simp) m
     try dsimp only [Za, Zb, Zc, Zd, repl] at hM

     refine E.asg rfl rfl <| E.nil <| X.join2 (xs ++ Df.eqs (l.getD a 0) (e - a)) v42 (Sub.cons rfl <| Sub.nil _) rfl ⟨hM, by rw [hsq, List.append_assoc], by rw [List.length_append, Df.eqs, List.length_cons]; omega⟩
   rintro ys vq w4 ⟨hM, hsq, hxl⟩

   refine C.region <| E.mv rfl rfl <| E.asg rfl rfl <| E.nil <| X.outN <| X.again3 e ys vq (Sub.cons rfl <| Sub.cons rfl <| Sub.nil _) rfl ⟨hM, by omega, hsq, hxl⟩ (by omega)
 ·
  rw [Df.sq_end (show l.length ≤ a by omega), List.append_nil] at hsq
  refine C.exit <| X.exitT <| X.exitT <| X.outE <| X.next <| C.seq <| C.region <| E.mv rfl rfl <| E.asg rfl rfl <| E.nil <| X.next <| C.ret <| ret1 rfl rfl ?_
  exact hM.to (by rw [hsq])
end Go.Proofs.YtplbgehpohdmdaaGreatDoor
namespace Go.Proofs.YtplbgehpohdmdaaGreatDoor
open Go.RowKit Sym
set_option maxHeartbeats 4000000 in
set_option maxRecDepth 4000 in
theorem tokens_ret (b : Nat) (vo vl vc dl dc vt : Value) (B : List Bool) (L D ts : List Nat) (w : World) (hs : Sep w [Rg.blk b 91 [vo, i64 (fr B)], Rg.sl u8 5 vo (Df.pk B), Rg.sl i64 3 vl (nz L), Rg.sl i64 3 vc (Pf.cdl L), Rg.sl i64 3 dl (nz D), Rg.sl i64 3 dc (Pf.cdl D), Rg.sl i64 3 vt (nz ts)]) (htk : ∀ t ∈ ts, Df.Tok t) (hL : 286 ≤ L.length) (hD : 30 ≤ D.length) (hbL : ∀ n ∈ L, n ≤ 30) (hbD : ∀ n ∈ D, n ≤ 30) (hkL : Pf.kr L ≤ 1073741824) (hkD : Pf.kr D ≤ 1073741824) (hl : B.length + 100 * ts.length ≤ 274877906944) :
  Ret Tryz.prog 84 #[pv b, vt, .agg #[vl, vc], .agg #[dl, dc]] w fun v w' => ∃ vn, M w (fpU [Rg.blk b 91 [vo, i64 (fr B)], Rg.sl u8 5 vo (Df.pk B), Rg.sl i64 3 vl (nz L), Rg.sl i64 3 vc (Pf.cdl L), Rg.sl i64 3 dl (nz D), Rg.sl i64 3 dc (Pf.cdl D), Rg.sl i64 3 vt (nz ts)]) w' [Rg.blk b 91 [vn, i64 (fr (B ++ Df.tbs L D ts ++ btv (Pf.code L 256) (L.getD 256 0)))], Rg.sl u8 5 vn (Df.pk (B ++ Df.tbs L D ts ++ btv (Pf.code L 256) (L.getD 256 0))), Rg.sl i64 3 vl (nz L), Rg.sl i64 3 vc (Pf.cdl L), Rg.sl i64 3 dl (nz D), Rg.sl i64 3 dc (Pf.cdl D), Rg.sl i64 3 vt (nz ts)] := by
 have hM := M.startS hs
 refine enter Tryz.func84 rfl (by kernel_rfl) Tryz.ntmps84 rfl ?_
 refine C.seq <| C.region <| ?_
 have hnt := nz_len ts
 refine E.boxM hM rfl rfl rfl ?_
 intro b6 w0 hM
 try dsimp only [Za, Zb, Zc, Zd, repl] at hM
 refine E.boxM hM rfl rfl rfl ?_
 intro b7 w1 hM
 try dsimp only [Za, Zb, Zc, Zd, repl] at hM
 refine E.nil <| X.next <| C.seq <| C.seq <| C.region <| E.mv rfl rfl <| ?_
 refine E.lenv rfl (Rd.shape (hM.sl 6 rfl)) Tryz.underlying86 rfl ?_
 rw [nz_len]
 refine E.mv rfl rfl <| E.nil <| X.next <| C.block <| ?_

 refine C.loop2 [(0, _), (6, _), (7, _), (13, _), (14, _)] rfl (fun (i : Nat) (vs : Value) => [(15, i64 i)]) (fun (i : Nat) (vs : Value) w' => M w (fpU [Rg.blk b 91 [vo, i64 (fr B)], Rg.sl u8 5 vo (Df.pk B), Rg.sl i64 3 vl (nz L), Rg.sl i64 3 vc (Pf.cdl L), Rg.sl i64 3 dl (nz D), Rg.sl i64 3 dc (Pf.cdl D), Rg.sl i64 3 vt (nz ts)]) w' [Rg.blk b 91 [vs, i64 (fr (B ++ Df.tbs L D (ts.take i)))], Rg.sl u8 5 vs (Df.pk (B ++ Df.tbs L D (ts.take i))), Rg.sl i64 3 vl (nz L), Rg.sl i64 3 vc (Pf.cdl L), Rg.sl i64 3 dl (nz D), Rg.sl i64 3 dc (Pf.cdl D), Rg.sl i64 3 vt (nz ts), Rg.blk b6 99 [vl, vc], Rg.blk b7 99 [dl, dc]] ∧ i ≤ ts.length) (fun (i : Nat) (vs : Value) => ts.length - i) 0 vo ?_ ?_ ?_
 · exact Sub.cons rfl <| Sub.nil _
 · exact ⟨hM.to (by rw [List.take_zero, show Df.tbs L D [] = [] from rfl, List.append_nil]), Nat.zero_le _⟩
 rintro i vs w2 ⟨hM, hi⟩
 refine C.seq <| C.region <| E.bin rfl rfl rfl rfl <| E.nil <| X.next <| C.seq <| ?_
 refine C.cond' rfl (fun hC0 => ?_) (fun hC0 => ?_)
 ·
  have hi' : i < ts.length := by omega
  obtain ⟨t, hte⟩ : ∃ t, t = ts[i] := ⟨_, rfl⟩
  have htt := htk ts[i] (List.getElem_mem hi')
  rw [← hte] at htt
  have hsn := Df.tbs_snoc (L := L) (D := D) hi'
  rw [← hte] at hsn
  have hBl : (B ++ Df.tbs L D (ts.take i)).length ≤ 274877906944 := by
   have := Df.tbs_len hbL hbD (ts := ts.take i) (fun x hx => htk x (List.mem_of_mem_take hx))
   rw [List.length_append]; rw [List.length_take] at this; omega
  obtain ⟨Bi, hBi⟩ : ∃ X, X = B ++ Df.tbs L D (ts.take i) := ⟨_, rfl⟩
  rw [← hBi] at hM hBl
  refine C.skip <| X.next <| ?_

  refine C.cut1 [(0, _), (6, _), (7, _), (13, _), (14, _), (15, _)] rfl (fun (vn : Value) => []) (fun (vn : Value) w' => M w (fpU [Rg.blk b 91 [vo, i64 (fr B)], Rg.sl u8 5 vo (Df.pk B), Rg.sl i64 3 vl (nz L), Rg.sl i64 3 vc (Pf.cdl L), Rg.sl i64 3 dl (nz D), Rg.sl i64 3 dc (Pf.cdl D), Rg.sl i64 3 vt (nz ts)]) w' [Rg.blk b 91 [vn, i64 (fr (B ++ Df.tbs L D (ts.take (i + 1))))], Rg.sl u8 5 vn (Df.pk (B ++ Df.tbs L D (ts.take (i + 1)))), Rg.sl i64 3 vl (nz L), Rg.sl i64 3 vc (Pf.cdl L), Rg.sl i64 3 dl (nz D), Rg.sl i64 3 dc (Pf.cdl D), Rg.sl i64 3 vt (nz ts), Rg.blk b6 99 [vl, vc], Rg.blk b7 99 [dl, dc]]) ?_ ?_
  ·
   refine C.block <| C.seq <| C.region <| ?_
   refine E.get (k := i) rfl rfl (hM.sl 6 rfl) rfl (by omega) Tryz.underlying86 (by kernel_rfl) Tryz.underlying3 rfl rfl rfl ?_
   rw [nz_get hi', ← hte]
   refine E.asg rfl rfl <| E.nil <| X.next <| C.seq <| C.seq <| C.region <| E.mv rfl rfl <| E.bin rfl rfl rfl rfl <| E.nil <| X.next <| ?_
   refine C.cond' rfl (fun hC1 => ?_) (fun hC1 => ?_)
   ·
    have h255 : t ≤ 255 := by omega
    refine C.seq <| C.region <| E.mv rfl rfl <| ?_
    refine E.loadA (cs := [vl, vc]) rfl Tryz.underlying99 rfl (by kernel_rfl) (hM.bat 7 rfl) rfl ?_
    refine E.mv rfl rfl <| ?_
    refine E.call rfl rfl (symbol_ret b vs vl vc Bi L t _ (hM.pick [0, 1, 2, 3] (by decide)).sep (by omega) hbL hkL (by omega)) ?_
    rintro _ w1 ⟨vn1, m⟩
    have hM := hM.calls [0, 1, 2, 3] (by decide) rfl (by simp) m
    try dsimp only [Za, Zb, Zc, Zd, repl] at hM
    try dsimp only [Za, Zb, Zc, Zd, repl] at hM

    refine E.nil <| X.next <| C.exit <| X.exitT <| X.outE <| X.join1 vn1 (Sub.nil _) rfl (hM.to (by rw [hsn, Df.tb, if_pos h255, hBi, List.append_assoc]))
   ·
    have h255 : ¬ t ≤ 255 := by omega
    obtain ⟨h3, h258, hd1, hd2⟩ := htt.resolve_left h255
    obtain ⟨ga, gb, gc, gd⟩ := Df.lsy_spec h3 h258
    obtain ⟨ka, kb, kc⟩ := Df.dsy_spec hd1 hd2
    have hx1 := Df.lx_bd (Df.lsy (t / 65536)) (by omega)
    have hx2 := Df.dx_bd (Df.dsy (t % 65536)) (by omega)
    have htb : t ≤ 16973823 := by omega
    have hgL := Df.gd30 hbL (Df.lsy (t / 65536))
    have hgD := Df.gd30 hbD (Df.dsy (t % 65536))
    rw [Df.tb, if_neg h255] at hsn
    refine C.skip <| X.next <| C.seq <| C.region <| E.mv rfl rfl <| ?_
    refine E.shr rfl rfl (by decide) (shr16 t) rfl ?_
    refine E.call rfl rfl (lengthSymbol_ret (t / 65536) _ h3 h258) ?_
    rintro _ w2 ⟨rfl, x2⟩
    have hM := hM.ext x2
    try dsimp only [Za, Zb, Zc, Zd, repl] at hM
    refine E.asg rfl rfl <| E.nil <| X.next <| C.seq <| C.region <| E.mv rfl rfl <| ?_
    refine E.call rfl rfl (lengthOf_ret (Df.lsy (t / 65536)) _ ga gb) ?_
    rintro _ w3 ⟨rfl, x3⟩
    have hM := hM.ext x3
    try dsimp only [Za, Zb, Zc, Zd, repl] at hM
    refine E.mv rfl rfl <| E.ext rfl rfl rfl <| E.ext rfl rfl rfl <| E.asg rfl rfl <| E.asg rfl rfl <| E.nil <| X.next <| C.seq <| C.region <| E.mv rfl rfl <| ?_
    refine E.loadA (cs := [vl, vc]) rfl Tryz.underlying99 rfl (by kernel_rfl) (hM.bat 7 rfl) rfl ?_
    refine E.mv rfl rfl <| ?_
    refine E.call rfl rfl (symbol_ret b vs vl vc Bi L (Df.lsy (t / 65536)) _ (hM.pick [0, 1, 2, 3] (by decide)).sep (by omega) hbL hkL (by omega)) ?_
    rintro _ w4 ⟨vn4, m⟩
    have hM := hM.calls [0, 1, 2, 3] (by decide) rfl (by simp) m
    try dsimp only [Za, Zb, Zc, Zd, repl] at hM
    try dsimp only [Za, Zb, Zc, Zd, repl] at hM
    refine E.nil <| X.next <| C.seq <| C.region <| E.mv rfl rfl <| E.mv rfl rfl <| ?_
    refine E.shr rfl rfl (by decide) (shr16 t) rfl ?_
    refine E.mv rfl rfl <| ?_
    refine E.subN (a := t / 65536) (b := Df.lls (Df.lsy (t / 65536))) rfl rfl (by omega) rfl ?_
    refine E.mv rfl rfl <| ?_
    refine E.call rfl rfl (bits_ret b vn4 _ (t / 65536 - Df.lls (Df.lsy (t / 65536))) (Df.lxt (Df.lsy (t / 65536))) _ (hM.pick [0, 1] (by decide)).sep (by omega) (by omega) (by rw [List.length_append, btv_len]; omega)) ?_
    rintro _ w5 ⟨vn5, m⟩
    have hM := hM.calls [0, 1] (by decide) rfl (by simp) m
    try dsimp only [Za, Zb, Zc, Zd, repl] at hM
    try dsimp only [Za, Zb, Zc, Zd, repl] at hM
    refine E.nil <| X.next <| C.seq <| C.region <| E.mv rfl rfl <| ?_
    refine E.binw rfl rfl rfl (congrArg _ (low16 t (by omega))) rfl ?_
    refine E.call rfl rfl (distanceSymbol_ret (t % 65536) _ hd1) ?_
    rintro _ w6 ⟨rfl, x6⟩
    have hM := hM.ext x6
    try dsimp only [Za, Zb, Zc, Zd, repl] at hM
    refine E.asg rfl rfl <| E.nil <| X.next <| C.seq <| C.region <| E.mv rfl rfl <| ?_
    refine E.call rfl rfl (distanceOf_ret (Df.dsy (t % 65536)) _ ka) ?_
    rintro _ w7 ⟨rfl, x7⟩
    have hM := hM.ext x7
    try dsimp only [Za, Zb, Zc, Zd, repl] at hM
    refine E.mv rfl rfl <| E.ext rfl rfl rfl <| E.ext rfl rfl rfl <| E.asg rfl rfl <| E.asg rfl rfl <| E.nil <| X.next <| C.seq <| C.region <| E.mv rfl rfl <| ?_
    refine E.loadA (cs := [dl, dc]) rfl Tryz.underlying99 rfl (by kernel_rfl) (hM.bat 8 rfl) rfl ?_
    refine E.mv rfl rfl <| ?_
    refine E.call rfl rfl (symbol_ret b vn5 dl dc _ D (Df.dsy (t % 65536)) _ (hM.pick [0, 1, 4, 5] (by decide)).sep (by omega) hbD hkD (by rw [List.length_append, List.length_append, btv_len, Df.low_len]; omega)) ?_
    rintro _ w8 ⟨vn8, m⟩
    have hM := hM.calls [0, 1, 4, 5] (by decide) rfl (by simp) m
    try dsimp only [Za, Zb, Zc, Zd, repl] at hM
    try dsimp only [Za, Zb, Zc, Zd, repl] at hM
    refine E.nil <| X.next <| C.region <| E.mv rfl rfl <| E.mv rfl rfl <| ?_
    refine E.binw rfl rfl rfl (congrArg _ (low16 t (by omega))) rfl ?_
    refine E.mv rfl rfl <| ?_
    refine E.subN (a := t % 65536) (b := Df.dls (Df.dsy (t % 65536))) rfl rfl (by omega) rfl ?_
    refine E.mv rfl rfl <| ?_
    refine E.call rfl rfl (bits_ret b vn8 _ (t % 65536 - Df.dls (Df.dsy (t % 65536))) (Df.dxt (Df.dsy (t % 65536))) _ (hM.pick [0, 1] (by decide)).sep (by omega) (by omega) (by rw [List.length_append, List.length_append, List.length_append, btv_len, Df.low_len, btv_len]; omega)) ?_
    rintro _ w9 ⟨vn9, m⟩
    have hM := hM.calls [0, 1] (by decide) rfl (by simp) m
    try dsimp only [Za, Zb, Zc, Zd, repl] at hM
    try dsimp only [Za, Zb, Zc, Zd, repl] at hM

    refine E.nil <| X.outN <| X.join1 vn9 (Sub.nil _) rfl (hM.to (by rw [hsn, hBi]; simp only [List.append_assoc]))
  rintro vn w12 hM
  refine C.region <| ?_
  refine E.add rfl rfl (by omega) rfl ?_

  refine E.mv rfl rfl <| E.nil <| X.again2 (i + 1) vn (Sub.cons rfl <| Sub.nil _) rfl ⟨hM, by omega⟩ (by omega)
 ·
  obtain rfl : i = ts.length := by omega
  rw [List.take_length] at hM
  have hBl := Df.tbs_len hbL hbD htk
  refine C.exit <| X.exitT <| X.exitT <| X.outE <| X.next <| C.region <| E.mv rfl rfl <| ?_
  refine E.loadA (cs := [vl, vc]) rfl Tryz.underlying99 rfl (by kernel_rfl) (hM.bat 7 rfl) rfl ?_
  refine E.call rfl rfl (symbol_ret b vs vl vc _ L 256 _ (hM.pick [0, 1, 2, 3] (by decide)).sep (by omega) hbL hkL (by rw [List.length_append]; omega)) ?_
  rintro _ w10 ⟨vn10, m⟩
  have hM := hM.calls [0, 1, 2, 3] (by decide) rfl (by simp) m
  try dsimp only [Za, Zb, Zc, Zd, repl] at hM
  try dsimp only [Za, Zb, Zc, Zd, repl] at hM
  refine E.nil <| end0 rfl ?_
  exact ⟨vn10, hM.pick [0, 1, 2, 3, 4, 5, 6] (by decide)⟩
end Go.Proofs.YtplbgehpohdmdaaGreatDoor
