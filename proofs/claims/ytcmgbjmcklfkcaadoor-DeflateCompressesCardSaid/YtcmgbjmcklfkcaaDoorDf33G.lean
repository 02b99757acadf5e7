/- barscanref34: occurrences; the lengths that are written. -/
import Derived.Test.YtcmgbjmcklfkcaaDoorDf32G
namespace Go.Proofs.YtcmgbjmcklfkcaaDoor
set_option linter.unusedSimpArgs false
set_option linter.unusedVariables false
open Go.RowKit Sym

set_option maxHeartbeats 2000000 in
set_option maxRecDepth 4000 in
theorem rcounts_ret (p : Value) (ts : List Nat) (w : World) (hr : RdL i64 w p (nz ts)) (htk : ∀ t ∈ ts, Df.Tok t) (hl : ts.length ≤ 1000000) :
    Ret Tryd.prog 54 #[p] w fun v w' => ∃ v2 v3, v = .tuple #[v2, v3] ∧ M w Nn w' [Rg.sl i64 3 v2 (nz (Df.fql ts)), Rg.sl i64 3 v3 (nz (Df.fqd ts))] := by
  have hM := M.start w
  refine enter Tryd.func54 rfl (by kernel_rfl) Tryd.ntmps54 rfl ?_
  refine C.seq <| C.region <| E.asg rfl rfl <| E.asg rfl rfl <| E.nil <| X.next <| C.seq <| C.region <| ?_
  refine E.makeM (by_ := 8) (enc := i64) (0 : Int) hM (n := 286) rfl Tryd.underlying29 (by kernel_rfl) rfl (by decide) (by decide) rfl ?_
  intro v10 w0 hM
  try dsimp only [List.nil_append, List.cons_append, List.set_cons_zero, List.set_cons_succ, repl] at hM
  refine E.asg rfl rfl <| E.nil <| X.next <| C.seq <| C.region <| ?_
  refine E.makeM (by_ := 8) (enc := i64) (0 : Int) hM (n := 30) rfl Tryd.underlying29 (by kernel_rfl) rfl (by decide) (by decide) rfl ?_
  intro v11 w1 hM
  try dsimp only [List.nil_append, List.cons_append, List.set_cons_zero, List.set_cons_succ, repl] at hM
  rw [← nz_rep, ← nz_rep] at hM
  refine E.asg rfl rfl <| E.nil <| X.next <| C.seq <| C.region <| E.mv rfl rfl <| ?_
  refine E.idx1 (k := 256) rfl rfl (hM.sl 0 rfl) rfl (by rw [nz_len, List.length_replicate]; omega) Tryd.underlying29 (by kernel_rfl) rfl ?_
  refine E.storeL (enc := i64) 0 ((1 : Nat) : Int) hM rfl rfl rfl (by kernel_rfl) rfl rfl (by rw [nz_len, List.length_replicate]; omega) ?_
  intro w2 hM
  try dsimp only [List.nil_append, List.cons_append, List.set_cons_zero, List.set_cons_succ, repl] at hM
  rw [nz_set] at hM
  refine E.nil <| X.next <| C.seq <| C.seq <| C.region <| E.asg rfl rfl <| E.nil <| X.next <| C.block <| ?_

  refine C.loop1 [(0, _), (4, _), (5, _)] rfl (fun (i : Nat) => [(6, i64 i)]) (fun (i : Nat) w' => M w (Nn) w' [Rg.sl i64 3 v10 (nz (Df.fql (ts.take i))), Rg.sl i64 3 v11 (nz (Df.fqd (ts.take i)))] ∧ i ≤ ts.length) (fun (i : Nat) => ts.length - i) 0 ?_ ?_ ?_
  · exact Sub.cons rfl <| Sub.nil _
  · exact ⟨hM, Nat.zero_le _⟩
  rintro i w3 ⟨hM, hi⟩
  refine C.seq <| C.seq <| C.region <| E.mv rfl rfl <| E.mv rfl rfl <| ?_
  refine E.lenv rfl (Rd.shape (hM.arg0 hr)) Tryd.underlying29 rfl ?_
  rw [nz_len]
  refine E.bin rfl rfl rfl rfl <| E.nil <| X.next <| ?_
  refine C.cond' rfl (fun hC0 => ?_) (fun hC0 => ?_)
  ·
    have hi' : i < ts.length := by omega
    obtain ⟨t, hte⟩ : ∃ t, t = ts[i] := ⟨_, rfl⟩
    have htt := htk ts[i] (List.getElem_mem hi')
    have hsn := Df.fql_snoc hi'
    have hln := Df.fql_len (ts.take i)
    have hdn := Df.fqd_len (ts.take i)
    have hlb := Df.fql_bd (ts.take i)
    have hdb := Df.fqd_bd (ts.take i)
    have htl : (ts.take i).length ≤ 1000000 := by rw [List.length_take]; omega
    rw [← hte] at htt hsn
    refine C.skip <| X.next <| ?_

    refine C.cut0 [(0, _), (4, _), (5, _), (6, _)] rfl [] (fun w' => M w (Nn) w' [Rg.sl i64 3 v10 (nz (Df.fql (ts.take (i + 1)))), Rg.sl i64 3 v11 (nz (Df.fqd (ts.take (i + 1))))]) ?_ ?_
    ·
      refine C.block <| C.seq <| C.seq <| C.region <| E.mv rfl rfl <| E.mv rfl rfl <| ?_
      refine E.get (k := i) rfl rfl (hM.arg0 hr) rfl (by rw [nz_len]; omega) Tryd.underlying29 (by kernel_rfl) Tryd.underlying3 rfl rfl rfl ?_
      rw [nz_get hi', ← hte]
      refine E.bin rfl rfl rfl rfl <| E.nil <| X.next <| ?_
      refine C.cond' rfl (fun hC1 => ?_) (fun hC1 => ?_)
      ·
        have h255 : t ≤ 255 := by omega
        rw [Df.lsm, if_pos h255] at hsn
        have hlt := Df.fqd_lit hi' (by rw [← hte]; exact h255)
        refine C.seq <| C.region <| E.mv rfl rfl <| E.mv rfl rfl <| E.mv rfl rfl <| ?_
        refine E.get (k := i) rfl rfl (hM.arg0 hr) rfl (by rw [nz_len]; omega) Tryd.underlying29 (by kernel_rfl) Tryd.underlying3 rfl rfl rfl ?_
        rw [nz_get hi', ← hte]
        refine E.get (k := t) rfl rfl (hM.sl 0 rfl) rfl (by rw [nz_len]; omega) Tryd.underlying29 (by kernel_rfl) Tryd.underlying3 rfl rfl rfl ?_
        rw [nz_gd]
        refine E.addN (a := (Df.fql (ts.take i)).getD t 0) (b := 1) rfl rfl (by have := gdB hlb (t); omega) rfl ?_
        refine E.idx1 (k := t) rfl rfl (hM.sl 0 rfl) rfl (by rw [nz_len]; omega) Tryd.underlying29 (by kernel_rfl) rfl ?_
        refine E.storeL (enc := i64) 0 (((Df.fql (ts.take i)).getD t 0 + 1 : Nat) : Int) hM rfl rfl rfl (by kernel_rfl) rfl rfl (by rw [nz_len]; omega) ?_
        intro w4 hM
        try dsimp only [List.nil_append, List.cons_append, List.set_cons_zero, List.set_cons_succ, repl] at hM
        rw [Df.nz_bmp] at hM

        refine E.nil <| X.next <| C.exit <| X.exitT <| X.outE <| X.join0  (Sub.nil _) rfl (hM.to (by rw [hsn, hlt]))
      ·
        have h255 : ¬ t ≤ 255 := by omega
        obtain ⟨h3, h258, hd1, hd2⟩ := htt.resolve_left h255
        obtain ⟨ga, gb, gc, gd⟩ := Df.lsy_spec h3 h258
        obtain ⟨ka, kb, kc⟩ := Df.dsy_spec hd1 hd2
        have htb : t ≤ 16973823 := by omega
        have hmt := Df.fqd_mat hi' (by rw [← hte]; exact h255)
        rw [← hte] at hmt
        rw [Df.lsm, if_neg h255] at hsn
        refine C.skip <| X.next <| C.seq <| C.region <| E.mv rfl rfl <| E.mv rfl rfl <| ?_
        refine E.get (k := i) rfl rfl (hM.arg0 hr) rfl (by rw [nz_len]; omega) Tryd.underlying29 (by kernel_rfl) Tryd.underlying3 rfl rfl rfl ?_
        rw [nz_get hi', ← hte]
        refine E.quo rfl rfl (by omega) (quoN (a := t) (b := 65536) (by omega) (by omega)) rfl ?_
        refine E.call rfl rfl (rlengthSymbol_ret (t / 65536) _ h3 h258) ?_
        rintro _ w2 ⟨rfl, x2⟩
        have hM := hM.ext x2
        try dsimp only [List.nil_append, List.cons_append, List.set_cons_zero, List.set_cons_succ, repl] at hM
        refine E.mv rfl rfl <| E.ext rfl rfl rfl <| E.ext rfl rfl rfl <| E.ext rfl rfl rfl <| E.asg rfl rfl <| E.asg rfl rfl <| E.asg rfl rfl <| E.nil <| X.next <| C.seq <| C.region <| E.mv rfl rfl <| E.mv rfl rfl <| ?_
        refine E.get (k := (Df.lsy (t / 65536))) rfl rfl (hM.sl 0 rfl) rfl (by rw [nz_len]; omega) Tryd.underlying29 (by kernel_rfl) Tryd.underlying3 rfl rfl rfl ?_
        rw [nz_gd]
        refine E.addN (a := (Df.fql (ts.take i)).getD (Df.lsy (t / 65536)) 0) (b := 1) rfl rfl (by have := gdB hlb ((Df.lsy (t / 65536))); omega) rfl ?_
        refine E.idx1 (k := (Df.lsy (t / 65536))) rfl rfl (hM.sl 0 rfl) rfl (by rw [nz_len]; omega) Tryd.underlying29 (by kernel_rfl) rfl ?_
        refine E.storeL (enc := i64) 0 (((Df.fql (ts.take i)).getD (Df.lsy (t / 65536)) 0 + 1 : Nat) : Int) hM rfl rfl rfl (by kernel_rfl) rfl rfl (by rw [nz_len]; omega) ?_
        intro w6 hM
        try dsimp only [List.nil_append, List.cons_append, List.set_cons_zero, List.set_cons_succ, repl] at hM
        rw [Df.nz_bmp] at hM
        refine E.nil <| X.next <| C.seq <| C.region <| E.mv rfl rfl <| E.mv rfl rfl <| ?_
        refine E.get (k := i) rfl rfl (hM.arg0 hr) rfl (by rw [nz_len]; omega) Tryd.underlying29 (by kernel_rfl) Tryd.underlying3 rfl rfl rfl ?_
        rw [nz_get hi', ← hte]
        refine E.rem rfl rfl (by omega) (remN (a := t) (b := 65536)) rfl ?_
        refine E.call rfl rfl (rdistanceSymbol_ret (t % 65536) _ hd1 hd2) ?_
        rintro _ w3 ⟨rfl, x3⟩
        have hM := hM.ext x3
        try dsimp only [List.nil_append, List.cons_append, List.set_cons_zero, List.set_cons_succ, repl] at hM
        refine E.mv rfl rfl <| E.ext rfl rfl rfl <| E.ext rfl rfl rfl <| E.ext rfl rfl rfl <| E.asg rfl rfl <| E.nil <| X.next <| C.region <| E.mv rfl rfl <| E.mv rfl rfl <| ?_
        refine E.get (k := (Df.dsy (t % 65536))) rfl rfl (hM.sl 1 rfl) rfl (by rw [nz_len]; omega) Tryd.underlying29 (by kernel_rfl) Tryd.underlying3 rfl rfl rfl ?_
        rw [nz_gd]
        refine E.addN (a := (Df.fqd (ts.take i)).getD (Df.dsy (t % 65536)) 0) (b := 1) rfl rfl (by have := gdB hdb ((Df.dsy (t % 65536))); omega) rfl ?_
        refine E.idx1 (k := (Df.dsy (t % 65536))) rfl rfl (hM.sl 1 rfl) rfl (by rw [nz_len]; omega) Tryd.underlying29 (by kernel_rfl) rfl ?_
        refine E.storeL (enc := i64) 1 (((Df.fqd (ts.take i)).getD (Df.dsy (t % 65536)) 0 + 1 : Nat) : Int) hM rfl rfl rfl (by kernel_rfl) rfl rfl (by rw [nz_len]; omega) ?_
        intro w8 hM
        try dsimp only [List.nil_append, List.cons_append, List.set_cons_zero, List.set_cons_succ, repl] at hM
        rw [Df.nz_bmp] at hM

        refine E.nil <| X.outN <| X.join0  (Sub.nil _) rfl (hM.to (by rw [hsn, hmt]))
    rintro  w9 hM
    refine C.region <| E.mv rfl rfl <| ?_
    refine E.addN (a := i) (b := 1) rfl rfl (by omega) rfl ?_

    refine E.asg rfl rfl <| E.nil <| X.again1 (i + 1) (Sub.cons rfl <| Sub.nil _) rfl ⟨hM, by omega⟩ (by omega)
  ·
    obtain rfl : i = ts.length := by omega
    rw [List.take_length] at hM
    refine C.exit <| X.exitT <| X.exitT <| X.outE <| X.next <| C.seq <| C.region <| E.mv rfl rfl <| E.mv rfl rfl <| E.asg rfl rfl <| E.asg rfl rfl <| E.nil <| X.next <| C.ret <| ret2 rfl rfl rfl ?_
    exact ⟨_, _, rfl, hM⟩

namespace Df
/-- the least number behind which all are 0: found from the front -/
def ctf (l : List Nat) (n : Nat) : Nat → Nat
  | 0 => n
  | k + 1 => if n ≤ k ∧ 0 < l.getD k 0 then k + 1 else ctf l n k
theorem ctf_low (l : List Nat) (n : Nat) : ∀ j, j ≤ n → ctf l n j = n
  | 0, _ => rfl
  | j + 1, h => by rw [ctf, if_neg (by omega), ctf_low l n j (by omega)]
theorem ctf_self (l : List Nat) (k : Nat) : ctf l (k + 1) (k + 1) = k + 1 := ctf_low l (k + 1) (k + 1) (Nat.le_refl _)
theorem ctf_ctg (l : List Nat) (n : Nat) : ∀ k, n ≤ k → ctf l n k = ctg l n k
  | 0, h => by
    have : n = 0 := by omega
    subst this; rfl
  | k + 1, h => by
    rw [ctf, ctg]
    by_cases c : n ≤ k ∧ 0 < l.getD k 0
    · rw [if_pos c, if_neg (by omega)]
    · rw [if_neg c]
      by_cases d : n ≤ k
      · rw [if_pos (by omega), ctf_ctg l n k d]
      · have : n = k + 1 := by omega
        subst this
        rw [if_neg (by omega)]
        have : ∀ j, j ≤ k + 1 → ctf l (k + 1) j = k + 1 := by
          intro j
          induction j with
          | zero => intro _; rfl
          | succ j ih => intro hj; rw [ctf, if_neg (by omega), ih (by omega)]
        exact this k (by omega)
end Df
theorem rcut_ret (p : Value) (l : List Nat) (n : Nat) (w : World) (hr : RdL i64 w p (nz l)) (hn : n ≤ l.length) :
    Ret Tryd.prog 56 #[p, i64 n] w fun v w' => v = i64 (Df.ctn l n : Int) ∧ Ext w w' := by
  have hM := M.start w
  refine enter Tryd.func56 rfl (by kernel_rfl) Tryd.ntmps56 rfl ?_
  refine C.seq <| C.region <| E.asg rfl rfl <| E.nil <| X.next <| C.seq <| C.seq <| C.region <| E.mv rfl rfl <| E.asg rfl rfl <| E.nil <| X.next <| C.block <| ?_
  have hle := Rd.le hr
  have hnl := nz_len l

  refine C.loop1 [(0, _)] rfl (fun (i : Nat) => [(1, i64 (Df.ctf l n i : Int)), (5, i64 i)]) (fun (i : Nat) w' => M w (Nn) w' [] ∧ n ≤ i ∧ i ≤ l.length) (fun (i : Nat) => l.length - i) n ?_ ?_ ?_
  · exact Sub.cons (look_val rfl (by rw [show Df.ctf l n n = n from (by cases n with | zero => rfl | succ k => exact Df.ctf_self l k)])) <| Sub.cons rfl <| Sub.nil _
  · exact ⟨hM, Nat.le_refl _, hn⟩
  rintro i w0 ⟨hM, hi1, hi2⟩
  refine C.seq <| C.seq <| C.region <| E.mv rfl rfl <| E.mv rfl rfl <| ?_
  refine E.lenv rfl (Rd.shape (hM.arg0 hr)) Tryd.underlying29 rfl ?_
  rw [nz_len]
  refine E.bin rfl rfl rfl rfl <| E.nil <| X.next <| ?_
  refine C.cond' rfl (fun hC0 => ?_) (fun hC0 => ?_)
  ·
    refine C.skip <| X.next <| ?_

    refine C.cut0 [(0, _), (5, _)] rfl [(1, i64 (Df.ctf l n (i + 1) : Int))] (fun w' => M w (Nn) w' []) ?_ ?_
    ·
      refine C.block <| C.seq <| C.region <| E.mv rfl rfl <| E.mv rfl rfl <| ?_
      refine E.get (k := i) rfl rfl (hM.arg0 hr) rfl (by omega) Tryd.underlying29 (by kernel_rfl) Tryd.underlying3 rfl rfl rfl ?_
      rw [nz_gd]
      refine E.bin rfl rfl rfl rfl <| E.nil <| X.next <| ?_
      refine C.cond' rfl (fun hC1 => ?_) (fun hC1 => ?_)
      ·
        refine C.region <| E.mv rfl rfl <| ?_
        refine E.addN (a := i) (b := 1) rfl rfl (by omega) rfl ?_

        refine E.asg rfl rfl <| E.nil <| X.outN <| X.join0  (Sub.cons (look_val rfl (by rw [Df.ctf, if_pos (by omega)])) <| Sub.nil _) rfl hM
      ·

        refine C.skip <| X.outN <| X.join0  (Sub.cons (look_val rfl (by rw [Df.ctf, if_neg (by omega)])) <| Sub.nil _) rfl hM
    rintro  w1 hM
    refine C.region <| E.mv rfl rfl <| ?_
    refine E.addN (a := i) (b := 1) rfl rfl (by omega) rfl ?_

    refine E.asg rfl rfl <| E.nil <| X.again1 (i + 1) (Sub.cons rfl <| Sub.cons rfl <| Sub.nil _) rfl ⟨hM, by omega, by omega⟩ (by omega)
  ·
    obtain rfl : i = l.length := by omega
    refine C.exit <| X.exitT <| X.exitT <| X.outE <| X.next <| C.seq <| C.region <| E.mv rfl rfl <| E.asg rfl rfl <| E.nil <| X.next <| C.ret <| ret1 rfl rfl ?_
    exact ⟨by rw [Df.ctf_ctg l n _ hi1]; rfl, hM.toExt⟩

end Go.Proofs.YtcmgbjmcklfkcaaDoor
