/- deflate: a block's lengths are read. -/
import Derived.Test.YtcmgbjmcklfkcaaDoorDf20G
namespace Go.Proofs.YtcmgbjmcklfkcaaDoor
set_option linter.unusedSimpArgs false
set_option linter.unusedVariables false
open Go.RowKit Sym

theorem nz_repl (out : List Nat) (k x : Nat) : nz out ++ List.replicate k (x : Int) = nz (out ++ List.replicate k x) := by
  unfold nz; rw [List.map_append, List.map_replicate]
theorem bd_snoc {out : List Nat} {y : Nat} (h : ∀ x ∈ out, x ≤ 15) (hy : y ≤ 15) : ∀ x ∈ out ++ [y], x ≤ 15 := fun x hx => by
  rcases List.mem_append.1 hx with h1 | h1
  · exact h x h1
  · rw [List.mem_singleton.1 h1]; exact hy
theorem bd_rep {out : List Nat} {y k : Nat} (h : ∀ x ∈ out, x ≤ 15) (hy : y ≤ 15) : ∀ x ∈ out ++ List.replicate k y, x ≤ 15 := fun x hx => by
  rcases List.mem_append.1 hx with h1 | h1
  · exact h x h1
  · rw [(List.mem_replicate.1 h1).2]; exact hy
theorem Df.lsv_le {s : Nat} {out : List Nat} (h : ∀ x ∈ out, x ≤ 15) : Df.lsv s out ≤ 15 := by
  unfold Df.lsv
  split
  · by_cases c : out.length - 1 < out.length
    · rw [List.getD_eq_getElem?_getD, List.getElem?_eq_getElem c]; exact h _ (List.getElem_mem c)
    · rw [List.getD_eq_getElem?_getD, List.getElem?_eq_none (by omega)]; exact Nat.zero_le _
  · omega
theorem Df.lsl_le (s : Nat) : 3 ≤ Df.lsl s ∧ Df.lsl s ≤ 11 := by unfold Df.lsl; split <;> omega
theorem Df.lsx_le (s : Nat) : Df.lsx s ≤ 7 := by unfold Df.lsx; split; omega; split <;> omega
set_option maxHeartbeats 4000000 in
set_option maxRecDepth 4000 in
theorem slengths_ret (bd n : Nat) (vs : Value) (L : List Nat) (b a0 lim : Nat) (p vo fv : Value) (l : List UInt8) (w : World) (hs : Sep w [Rg.blk b 74 [p, i64 ((a0 : Nat) : Int), i64 (lim : Int), vo, fv], Sym.Ax bd 132 16 (fun n => (Df.cn L n : Int)) [vs, i64 (Df.mx L : Int)], Rg.sl i64 3 vs (nz (Pf.od L))]) (hp : RdL u8 w p l) (ho : Off (fpU [Rg.blk b 74 [p, i64 ((a0 : Nat) : Int), i64 (lim : Int), vo, fv], Sym.Ax bd 132 16 (fun n => (Df.cn L n : Int)) [vs, i64 (Df.mx L : Int)], Rg.sl i64 3 vs (nz (Pf.od L))]) p l) (ha0 : a0 ≤ 8 * l.length) (hl : l.length ≤ 1099511627776) (hc : Df.Code L) (hcL : L.length ≤ 4294967296) (hn : n ≤ 1000) :
    Ret Tryd.prog 92 #[pv b, pv bd, i64 n] w fun v w' => ∃ (vl : Value) (ls : List Nat) (a' : Nat) (e : Int), v = .tuple #[vl, i64 e] ∧ M w (fpU [Rg.blk b 74 [p, i64 ((a0 : Nat) : Int), i64 (lim : Int), vo, fv], Sym.Ax bd 132 16 (fun n => (Df.cn L n : Int)) [vs, i64 (Df.mx L : Int)], Rg.sl i64 3 vs (nz (Pf.od L))]) w' [Rg.blk b 74 [p, i64 ((a' : Nat) : Int), i64 (lim : Int), vo, fv], Sym.Ax bd 132 16 (fun n => (Df.cn L n : Int)) [vs, i64 (Df.mx L : Int)], Rg.sl i64 3 vs (nz (Pf.od L)), Rg.sl i64 3 vl (nz ls)] ∧ Rds (Df.rln L n [] (Df.ub l) a0) ls a' e ∧ (e = 0 → ls.length = n) ∧ (∀ x ∈ ls, x ≤ 15) := by
  have hM := M.startS hs
  refine enter Tryd.func92 rfl (by kernel_rfl) Tryd.ntmps92 rfl ?_
  refine C.seq <| C.region <| E.asg rfl rfl <| E.asg rfl rfl <| E.nil <| X.next <| C.seq <| C.region <| E.asg rfl rfl <| E.nil <| X.next <| C.seq <| C.block <| ?_
  have hul := Df.ub_len l
  have hM := hM.nil i64 3
  try dsimp only [List.nil_append, List.cons_append, List.set_cons_zero, List.set_cons_succ, repl] at hM

  refine C.loop3 [(0, _), (1, _), (2, _)] rfl (fun (a : Nat) (out : (List Nat)) (vl : Value) => [(8, vl)]) (fun (a : Nat) (out : (List Nat)) (vl : Value) w' => M w (fpU [Rg.blk b 74 [p, i64 ((a0 : Nat) : Int), i64 (lim : Int), vo, fv], Sym.Ax bd 132 16 (fun n => (Df.cn L n : Int)) [vs, i64 (Df.mx L : Int)], Rg.sl i64 3 vs (nz (Pf.od L))]) w' [Rg.blk b 74 [p, i64 ((a : Nat) : Int), i64 (lim : Int), vo, fv], Sym.Ax bd 132 16 (fun n => (Df.cn L n : Int)) [vs, i64 (Df.mx L : Int)], Rg.sl i64 3 vs (nz (Pf.od L)), Rg.sl i64 3 vl (nz out)] ∧ Df.rln L n [] (Df.ub l) a0 = Df.rln L n out (Df.ub l) a ∧ a ≤ 8 * l.length ∧ out.length ≤ n ∧ (∀ x ∈ out, x ≤ 15)) (fun (a : Nat) (out : (List Nat)) (vl : Value) => n - out.length) a0 [] (.slice none 0 0) ?_ ?_ ?_
  · exact Sub.cons rfl <| Sub.nil _
  · exact ⟨hM, rfl, ha0, Nat.zero_le _, (by intro x hx; exact absurd hx (by simp))⟩
  rintro a out vl w0 ⟨hM, hrl, ha, hon, hob⟩
  refine C.seq <| C.seq <| C.region <| E.mv rfl rfl <| ?_
  refine E.lenv rfl (Rd.shape (hM.sl 3 rfl)) Tryd.underlying29 rfl ?_
  rw [nz_len]
  refine E.mv rfl rfl <| E.bin rfl rfl rfl rfl <| E.nil <| X.next <| ?_
  refine C.cond' rfl (fun hC0 => ?_) (fun hC0 => ?_)
  ·
    have hlt : out.length < n := by omega
    rw [Df.rln_on hlt] at hrl
    have hnl := nz_len out
    refine C.skip <| X.next <| C.block <| C.seq <| C.region <| E.mv rfl rfl <| E.mv rfl rfl <| ?_
    refine E.call rfl rfl (ssym_ret bd vs L b a lim p vo fv l _ (hM.pick [0, 1, 2] (by decide)).sep (hM.arg hp ho) ((hM.pick [0, 1, 2] (by decide)).offS hp ho) (by omega) hl hc hcL) ?_
    rintro _ w1 ⟨x1, a1, e1, rfl, m, hr1⟩
    have hM := hM.calls [0, 1, 2] (by decide) rfl (by simp) m
    try dsimp only [List.nil_append, List.cons_append, List.set_cons_zero, List.set_cons_succ, repl] at hM
    try dsimp only [List.nil_append, List.cons_append, List.set_cons_zero, List.set_cons_succ, repl] at hM
    refine E.mv rfl rfl <| E.ext rfl rfl rfl <| E.ext rfl rfl rfl <| E.asg rfl rfl <| E.asg rfl rfl <| E.nil <| X.next <| C.seq <| C.seq <| C.region <| E.mv rfl rfl <| E.bin rfl rfl rfl rfl <| E.nil <| X.next <| ?_
    refine C.cond' rfl (fun hC1 => ?_) (fun hC1 => ?_)
    ·
      refine C.seq <| C.region <| E.mv rfl rfl <| E.asg rfl rfl <| E.asg rfl rfl <| E.nil <| X.next <| C.ret <| X.retT <| X.retB <| X.retT <| X.retB <| X.retT <| ret2 rfl rfl rfl ?_
      exact ⟨_, [], a1, e1, rfl, (hM.nil i64 3).pick [0, 1, 2, 4] (by decide), .err hC1 (by rw [hrl, Df.bnd_err (hr1.bad hC1)]), fun h => absurd h hC1, (by intro x hx; exact absurd hx (by simp))⟩
    ·
      have hq1 := hr1.good hC1
      have hv1 := Df.rsym_adv (by omega) hq1
      rw [Df.bnd_ok hq1] at hrl
      refine C.skip <| X.next <| C.seq <| C.seq <| C.region <| E.mv rfl rfl <| E.bin rfl rfl rfl rfl <| E.nil <| X.next <| ?_
      refine C.cond' rfl (fun hC2 => ?_) (fun hC2 => ?_)
      ·
        rw [if_pos (by omega)] at hrl
        refine C.seq <| C.region <| E.mv rfl rfl <| E.mv rfl rfl <| ?_
        refine E.pushM (enc := i64) 3 (x1 : Int) hM rfl rfl rfl Tryd.underlying29 elem_Tint rfl (by omega) (by omega) (by simp) rfl rfl ?_
        intro v33 u33 w2 hM
        try dsimp only [List.nil_append, List.cons_append, List.set_cons_zero, List.set_cons_succ, repl] at hM

        refine E.asg rfl rfl <| E.nil <| X.next <| C.exit <| X.exitT <| X.outE <| X.again3 a1 (out ++ [x1]) v33 (Sub.cons rfl <| Sub.nil _) rfl ⟨hM.to (by rw [nz_snoc]), hrl, by omega, by rw [List.length_append, List.length_singleton]; omega, bd_snoc hob (by omega)⟩ (by rw [List.length_append, List.length_singleton]; omega)
      ·
        rw [if_neg (by omega)] at hrl
        refine C.skip <| X.next <| C.seq <| ?_

        refine C.chainE [(0, _), (1, _), (2, _), (8, _), (9, _)] rfl [(40, .bool (decide (x1 = 16 ∧ out.length = 0)))] ?_ ?_
        ·
          refine C.region <| E.mv rfl rfl <| E.bin rfl rfl rfl rfl <| E.mv rfl rfl <| ?_
          refine E.split 36 rfl (fun g36 => ?_) (fun g36 => ?_)
          ·
            try simp only [decide_eq_true_eq, decide_eq_false_iff_not, ne_eq, Decidable.not_not, Bool.not_eq_true', Bool.not_eq_false'] at g36
            refine E.on rfl rfl (E.mv rfl rfl ?_)
            refine E.on rfl rfl (E.lenv rfl (Rd.shape (hM.sl 3 rfl)) Tryd.underlying29 rfl ?_)
            rw [nz_len]
            refine E.on rfl rfl (E.bin rfl rfl rfl rfl ?_)
            refine E.pick rfl rfl rfl <| E.nil <| X.join0 (Sub.cons (by (first | exact leaf_f (by omega) | exact leaf_t (by omega) | exact leaf_d (by omega) | exact leaf_f (by first | (simp [*] <;> fail) | omega) | exact leaf_t (by first | (simp [*] <;> fail) | omega) | exact leaf_d (by first | (simp [*] <;> fail) | omega) | exact leaf_f (by (first | omega | ((try simp only [decide_eq_true_eq, decide_eq_false_iff_not, Bool.not_eq_true', Bool.not_eq_false'] at *); first | omega | (simp_all <;> fail) | (simp_all; omega)))) | exact leaf_t (by (first | omega | ((try simp only [decide_eq_true_eq, decide_eq_false_iff_not, Bool.not_eq_true', Bool.not_eq_false'] at *); first | omega | (simp_all <;> fail) | (simp_all; omega)))) | exact leaf_d (by (first | omega | ((try simp only [decide_eq_true_eq, decide_eq_false_iff_not, Bool.not_eq_true', Bool.not_eq_false'] at *); first | omega | (simp_all <;> fail) | (simp_all; omega)))))) <| Sub.nil _) rfl rfl
          ·
            try simp only [decide_eq_true_eq, decide_eq_false_iff_not, ne_eq, Decidable.not_not, Bool.not_eq_true', Bool.not_eq_false'] at g36
            refine E.off rfl rfl rfl rfl <| E.off rfl rfl rfl rfl <| E.off rfl rfl rfl rfl <| E.pick rfl rfl rfl <| E.nil <| X.join0 (Sub.cons (by (first | exact leaf_f (by omega) | exact leaf_t (by omega) | exact leaf_d (by omega) | exact leaf_f (by first | (simp [*] <;> fail) | omega) | exact leaf_t (by first | (simp [*] <;> fail) | omega) | exact leaf_d (by first | (simp [*] <;> fail) | omega) | exact leaf_f (by (first | omega | ((try simp only [decide_eq_true_eq, decide_eq_false_iff_not, Bool.not_eq_true', Bool.not_eq_false'] at *); first | omega | (simp_all <;> fail) | (simp_all; omega)))) | exact leaf_t (by (first | omega | ((try simp only [decide_eq_true_eq, decide_eq_false_iff_not, Bool.not_eq_true', Bool.not_eq_false'] at *); first | omega | (simp_all <;> fail) | (simp_all; omega)))) | exact leaf_d (by (first | omega | ((try simp only [decide_eq_true_eq, decide_eq_false_iff_not, Bool.not_eq_true', Bool.not_eq_false'] at *); first | omega | (simp_all <;> fail) | (simp_all; omega)))))) <| Sub.nil _) rfl rfl
        refine C.cond' rfl (fun hC3 => ?_) (fun hC3 => ?_)
        ·
          rw [if_pos (by omega)] at hrl
          refine C.seq <| C.region <| E.asg rfl rfl <| E.asg rfl rfl <| E.nil <| X.next <| C.ret <| X.retT <| X.retB <| X.retT <| X.retB <| X.retT <| ret2 rfl rfl rfl ?_
          exact ⟨_, [], a1, 9, rfl, (hM.nil i64 3).pick [0, 1, 2, 4] (by decide), .err (by decide) (hrl), fun h => absurd h (by decide), (by intro x hx; exact absurd hx (by simp))⟩
        ·
          rw [if_neg (by omega)] at hrl
          obtain ⟨hl3, hl11⟩ := Df.lsl_le x1
          have hx7 := Df.lsx_le x1
          have hv15 := Df.lsv_le (s := x1) hob
          refine C.skip <| X.next <| C.seq <| C.region <| E.asg rfl rfl <| E.asg rfl rfl <| E.asg rfl rfl <| E.nil <| X.next <| ?_

          refine C.cut0 [(0, _), (1, _), (2, _), (8, _)] rfl [(11, i64 (Df.lsv x1 out : Int)), (12, i64 (Df.lsl x1 : Int)), (13, i64 (Df.lsx x1 : Int))] (fun w' => M w (fpU [Rg.blk b 74 [p, i64 ((a0 : Nat) : Int), i64 (lim : Int), vo, fv], Sym.Ax bd 132 16 (fun n => (Df.cn L n : Int)) [vs, i64 (Df.mx L : Int)], Rg.sl i64 3 vs (nz (Pf.od L))]) w' [Rg.blk b 74 [p, i64 ((a1 : Nat) : Int), i64 (lim : Int), vo, fv], Sym.Ax bd 132 16 (fun n => (Df.cn L n : Int)) [vs, i64 (Df.mx L : Int)], Rg.sl i64 3 vs (nz (Pf.od L)), Rg.sl i64 3 vl (nz out)]) ?_ ?_
          ·
            refine C.seq <| C.region <| E.mv rfl rfl <| E.nil <| X.next <| C.block <| C.seq <| C.region <| E.bin rfl rfl rfl rfl <| E.asg rfl rfl <| E.nil <| X.next <| ?_
            refine C.cond' rfl (fun hC4 => ?_) (fun hC4 => ?_)
            ·
              have hol : 0 < out.length := by omega
              refine C.region <| E.mv rfl rfl <| E.mv rfl rfl <| ?_
              refine E.lenv rfl (Rd.shape (hM.sl 3 rfl)) Tryd.underlying29 rfl ?_
              rw [nz_len]
              refine E.subN (a := out.length) (b := 1) rfl rfl (by omega) rfl ?_
              refine E.get (k := out.length - 1) rfl rfl (hM.sl 3 rfl) rfl (by omega) Tryd.underlying29 (by kernel_rfl) Tryd.underlying3 rfl rfl rfl ?_
              rw [nz_gd]

              refine E.asg rfl rfl <| E.asg rfl rfl <| E.nil <| X.outN <| X.join0  (Sub.cons (look_val rfl (by rw [Df.lsv, if_pos (by omega)])) <| Sub.cons (look_val rfl (by rw [Df.lsl, if_neg (by omega)]; rfl)) <| Sub.cons (look_val rfl (by rw [Df.lsx, if_pos (by omega)]; rfl)) <| Sub.nil _) rfl hM
            ·
              refine C.seq <| C.region <| E.bin rfl rfl rfl rfl <| E.asg rfl rfl <| E.nil <| X.next <| ?_
              refine C.cond' rfl (fun hC5 => ?_) (fun hC5 => ?_)
              ·

                refine C.region <| E.asg rfl rfl <| E.asg rfl rfl <| E.nil <| X.outN <| X.join0  (Sub.cons (look_val rfl (by rw [Df.lsv, if_neg (by omega)]; rfl)) <| Sub.cons (look_val rfl (by rw [Df.lsl, if_pos (by omega)]; rfl)) <| Sub.cons (look_val rfl (by rw [Df.lsx, if_neg (by omega), if_pos (by omega)]; rfl)) <| Sub.nil _) rfl hM
              ·

                refine C.skip <| X.outN <| X.join0  (Sub.cons (look_val rfl (by rw [Df.lsv, if_neg (by omega)]; rfl)) <| Sub.cons (look_val rfl (by rw [Df.lsl, if_neg (by omega)]; rfl)) <| Sub.cons (look_val rfl (by rw [Df.lsx, if_neg (by omega), if_neg (by omega)]; rfl)) <| Sub.nil _) rfl hM
          rintro  w3 hM
          refine C.seq <| C.region <| E.mv rfl rfl <| E.mv rfl rfl <| ?_
          refine E.call rfl rfl (sbits_ret (Df.lsx x1) b a1 lim p vo fv l _ (hM.pick [0] (by decide)).sep (hM.arg hp ho) ((hM.pick [0] (by decide)).offS hp ho) (by omega) hl (by omega)) ?_
          rintro _ w2 ⟨x2, a2, e2, rfl, m, hr2⟩
          have hM := hM.calls [0] (by decide) rfl (by simp) m
          try dsimp only [List.nil_append, List.cons_append, List.set_cons_zero, List.set_cons_succ, repl] at hM
          try dsimp only [List.nil_append, List.cons_append, List.set_cons_zero, List.set_cons_succ, repl] at hM
          refine E.mv rfl rfl <| E.ext rfl rfl rfl <| E.ext rfl rfl rfl <| E.asg rfl rfl <| E.asg rfl rfl <| E.nil <| X.next <| C.seq <| C.seq <| C.region <| E.mv rfl rfl <| E.bin rfl rfl rfl rfl <| E.nil <| X.next <| ?_
          refine C.cond' rfl (fun hC6 => ?_) (fun hC6 => ?_)
          ·
            refine C.seq <| C.region <| E.mv rfl rfl <| E.asg rfl rfl <| E.asg rfl rfl <| E.nil <| X.next <| C.ret <| X.retT <| X.retB <| X.retT <| X.retB <| X.retT <| ret2 rfl rfl rfl ?_
            exact ⟨_, [], a2, e2, rfl, (hM.nil i64 3).pick [0, 1, 2, 4] (by decide), .err hC6 (by rw [hrl, Df.bnd_err (hr2.bad hC6)]), fun h => absurd h hC6, (by intro x hx; exact absurd hx (by simp))⟩
          ·
            have hq2 := hr2.good hC6
            obtain ⟨hx2, he2, hb2⟩ := rbits_lt hq2
            rw [Df.bnd_ok hq2] at hrl
            have hp7 : 2 ^ Df.lsx x1 ≤ 2 ^ 7 := Nat.pow_le_pow_right (by decide) hx7
            refine C.skip <| X.next <| C.seq <| C.seq <| C.region <| E.mv rfl rfl <| ?_
            refine E.lenv rfl (Rd.shape (hM.sl 3 rfl)) Tryd.underlying29 rfl ?_
            rw [nz_len]
            refine E.mv rfl rfl <| ?_
            refine E.addN (a := out.length) (b := Df.lsl x1) rfl rfl (by omega) rfl ?_
            refine E.mv rfl rfl <| ?_
            refine E.addN (a := out.length + Df.lsl x1) (b := x2) rfl rfl (by omega) rfl ?_
            refine E.mv rfl rfl <| E.bin rfl rfl rfl rfl <| E.nil <| X.next <| ?_
            refine C.cond' rfl (fun hC7 => ?_) (fun hC7 => ?_)
            ·
              rw [if_pos (by omega)] at hrl
              refine C.seq <| C.region <| E.asg rfl rfl <| E.asg rfl rfl <| E.nil <| X.next <| C.ret <| X.retT <| X.retB <| X.retT <| X.retB <| X.retT <| ret2 rfl rfl rfl ?_
              exact ⟨_, [], a2, 9, rfl, (hM.nil i64 3).pick [0, 1, 2, 4] (by decide), .err (by decide) (hrl), fun h => absurd h (by decide), (by intro x hx; exact absurd hx (by simp))⟩
            ·
              rw [if_neg (by omega)] at hrl
              refine C.skip <| X.next <| C.region <| E.mv rfl rfl <| E.mv rfl rfl <| ?_
              refine E.mk1M (enc := i64) (Df.lsv x1 out : Int) hM rfl Tryd.underlying29 elem_Tint rfl rfl ?_
              intro v71 w5 hM
              try dsimp only [List.nil_append, List.cons_append, List.set_cons_zero, List.set_cons_succ, repl] at hM
              refine E.mv rfl rfl <| E.mv rfl rfl <| ?_
              refine E.addN (a := Df.lsl x1) (b := x2) rfl rfl (by omega) rfl ?_
              refine E.call rfl rfl (Repeat_ret v71 (Df.lsv x1 out : Int) (Df.lsl x1 + x2) _ (hM.sl 4 rfl) (by omega) (by omega)) ?_
              rintro v75 w9 m
              have hM := hM.call m
              try dsimp only [List.nil_append, List.cons_append, List.set_cons_zero, List.set_cons_succ, repl] at hM
              try dsimp only [List.nil_append, List.cons_append, List.set_cons_zero, List.set_cons_succ, repl] at hM
              refine E.appendM 3 hM rfl rfl rfl Tryd.underlying29 elem_Tint (hM.sl 5 rfl) (fun _ => rfl) (by rw [List.length_replicate]; omega) (by rw [List.length_replicate]; omega) rfl ?_
              intro v76 w7 hM
              try dsimp only [List.nil_append, List.cons_append, List.set_cons_zero, List.set_cons_succ, repl] at hM
              rw [nz_repl] at hM

              refine E.asg rfl rfl <| E.nil <| X.outN <| X.again3 a2 (out ++ List.replicate (Df.lsl x1 + x2) (Df.lsv x1 out)) v76 (Sub.cons rfl <| Sub.nil _) rfl ⟨hM.pick [0, 1, 2, 3] (by decide), hrl, by omega, by rw [List.length_append, List.length_replicate]; omega, bd_rep hob hv15⟩ (by rw [List.length_append, List.length_replicate]; omega)
  ·
    rw [Df.rln_end (out := out) (by omega)] at hrl
    refine C.exit <| X.exitT <| X.exitT <| X.outE <| X.next <| C.seq <| C.region <| E.mv rfl rfl <| E.asg rfl rfl <| E.asg rfl rfl <| E.nil <| X.next <| C.ret <| ret2 rfl rfl rfl ?_
    exact ⟨_, out, a, 0, rfl, hM, .ok hrl, fun _ => by omega, hob⟩

end Go.Proofs.YtcmgbjmcklfkcaaDoor
