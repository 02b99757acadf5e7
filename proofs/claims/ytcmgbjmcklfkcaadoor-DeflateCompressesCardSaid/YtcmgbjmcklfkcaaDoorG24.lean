/- Texts of the claim, laid together: Pf26. -/
import Derived.Test.YtcmgbjmcklfkcaaDoorG22
import Derived.Test.YtcmgbjmcklfkcaaDoorG23
/- prefix: Lengths. -/
namespace Go.Proofs.YtcmgbjmcklfkcaaDoor
set_option linter.unusedSimpArgs false
set_option linter.unusedVariables false
open Go.RowKit Sym

set_option maxHeartbeats 4000000 in
set_option maxRecDepth 4000 in
theorem Lengths_ret (p : Value) (zs : List Int) (most : Int) (w : World) (hr : RdL i64 w p zs) :
    Ret Tryd.prog 42 #[p, i64 most] w fun v w' => ∃ vo, v = .tuple #[vo, i64 (lnv zs most).2] ∧ M w Nn w' [Rg.sl i64 3 vo (lnv zs most).1] := by
  have hM := M.start w
  refine enter Tryd.func42 rfl (by kernel_rfl) Tryd.ntmps42 rfl ?_
  refine C.seq <| C.region <| E.asg rfl rfl <| E.asg rfl rfl <| E.nil <| X.next <| C.seq <| C.seq <| C.region <| E.mv rfl rfl <| ?_
  refine E.call rfl rfl (within_ret p zs 1099511627776 _ (hM.arg0 hr)) ?_
  rintro _ w1 ⟨rfl, x1⟩
  have hM := hM.ext x1
  try dsimp only [List.nil_append, List.cons_append, List.set_cons_zero, List.set_cons_succ, repl] at hM
  refine E.asg rfl rfl <| E.nil <| X.next <| C.seq <| C.region <| E.mv rfl rfl <| E.bin rfl rfl rfl rfl <| E.nil <| X.next <| ?_
  refine C.cond' rfl (fun hC0 => ?_) (fun hC0 => ?_)
  ·
    refine C.seq <| C.region <| E.mv rfl rfl <| E.asg rfl rfl <| E.asg rfl rfl <| E.nil <| X.next <| C.ret <| X.retT <| ret2 rfl rfl rfl ?_
    exact ⟨_, by rw [lnv_bad hC0], by rw [lnv_bad hC0]; exact hM.nil i64 3⟩
  ·
    obtain ⟨hl4, hok⟩ := wt_ok (Decidable.byContradiction hC0)
    refine C.skip <| X.next <| C.seq <| ?_

    refine C.chainE [(0, _), (1, _)] rfl [(24, .bool (decide (most < 1 ∨ 30 < most)))] ?_ ?_
    ·
      refine C.region <| E.mv rfl rfl <| E.bin rfl rfl rfl rfl <| E.mv rfl rfl <| ?_
      refine E.split 21 rfl (fun g21 => ?_) (fun g21 => ?_)
      ·
        try simp only [decide_eq_true_eq, decide_eq_false_iff_not, ne_eq, Decidable.not_not, Bool.not_eq_true', Bool.not_eq_false'] at g21
        refine E.off rfl rfl rfl rfl <| E.off rfl rfl rfl rfl <| E.pick rfl rfl rfl <| E.nil <| X.join0 (Sub.cons (by (first | exact leaf_f (by omega) | exact leaf_t (by omega) | exact leaf_d (by omega) | exact leaf_f (by first | (simp [*] <;> fail) | omega) | exact leaf_t (by first | (simp [*] <;> fail) | omega) | exact leaf_d (by first | (simp [*] <;> fail) | omega) | exact leaf_f (by (first | omega | ((try simp only [decide_eq_true_eq, decide_eq_false_iff_not, Bool.not_eq_true', Bool.not_eq_false'] at *); first | omega | (simp_all <;> fail) | (simp_all; omega)))) | exact leaf_t (by (first | omega | ((try simp only [decide_eq_true_eq, decide_eq_false_iff_not, Bool.not_eq_true', Bool.not_eq_false'] at *); first | omega | (simp_all <;> fail) | (simp_all; omega)))) | exact leaf_d (by (first | omega | ((try simp only [decide_eq_true_eq, decide_eq_false_iff_not, Bool.not_eq_true', Bool.not_eq_false'] at *); first | omega | (simp_all <;> fail) | (simp_all; omega)))))) <| Sub.nil _) rfl rfl
      ·
        try simp only [decide_eq_true_eq, decide_eq_false_iff_not, ne_eq, Decidable.not_not, Bool.not_eq_true', Bool.not_eq_false'] at g21
        refine E.on rfl rfl (E.mv rfl rfl ?_)
        refine E.on rfl rfl (E.bin rfl rfl rfl rfl ?_)
        refine E.pick rfl rfl rfl <| E.nil <| X.join0 (Sub.cons (by (first | exact leaf_f (by omega) | exact leaf_t (by omega) | exact leaf_d (by omega) | exact leaf_f (by first | (simp [*] <;> fail) | omega) | exact leaf_t (by first | (simp [*] <;> fail) | omega) | exact leaf_d (by first | (simp [*] <;> fail) | omega) | exact leaf_f (by (first | omega | ((try simp only [decide_eq_true_eq, decide_eq_false_iff_not, Bool.not_eq_true', Bool.not_eq_false'] at *); first | omega | (simp_all <;> fail) | (simp_all; omega)))) | exact leaf_t (by (first | omega | ((try simp only [decide_eq_true_eq, decide_eq_false_iff_not, Bool.not_eq_true', Bool.not_eq_false'] at *); first | omega | (simp_all <;> fail) | (simp_all; omega)))) | exact leaf_d (by (first | omega | ((try simp only [decide_eq_true_eq, decide_eq_false_iff_not, Bool.not_eq_true', Bool.not_eq_false'] at *); first | omega | (simp_all <;> fail) | (simp_all; omega)))))) <| Sub.nil _) rfl rfl
    refine C.cond' rfl (fun hC1 => ?_) (fun hC1 => ?_)
    ·
      refine C.seq <| C.region <| E.asg rfl rfl <| E.asg rfl rfl <| E.nil <| X.next <| C.ret <| X.retT <| ret2 rfl rfl rfl ?_
      exact ⟨_, by rw [lnv_rng hl4 hok hC1], by rw [lnv_rng hl4 hok hC1]; exact hM.nil i64 3⟩
    ·
      obtain ⟨mo, rfl⟩ : ∃ mo : Nat, most = (mo : Int) := ⟨most.toNat, by omega⟩
      have hmo : 1 ≤ mo ∧ mo ≤ 30 := by omega
      obtain ⟨hz, hbB⟩ := toN_nz (m := 1099511627776) hok
      have hlz := toN_len zs
      obtain ⟨fs, hfs⟩ : ∃ fs, fs = toN zs := ⟨_, rfl⟩
      have hSg : Sg zs = (isort Tr.wt (sgl fs)) := by rw [hfs]
      rw [← hfs] at hz hbB hlz
      have hr' : RdL i64 w p (nz fs) := by rw [← hz]; exact hr
      have hnl := nz_len fs
      have hSl := sgl_len fs
      have hSi := isort_len Tr.wt (sgl fs)
      refine C.skip <| X.next <| C.seq <| C.region <| E.asg rfl rfl <| E.nil <| X.next <| C.seq <| C.seq <| C.region <| E.mv rfl rfl <| ?_
      refine E.lenv rfl (Rd.shape (hM.arg0 hr')) Tryd.underlying29 rfl ?_
      rw [nz_len]
      refine E.mv rfl rfl <| E.nil <| X.next <| C.block <| ?_
      have hM := (hM.nil ip 112).poolNil []
      try dsimp only [List.nil_append, List.cons_append, List.set_cons_zero, List.set_cons_succ, repl] at hM

      refine C.loop3 [(0, _), (1, _), (25, _), (26, _)] rfl (fun (i : Nat) (xs : (List It)) (v7 : Value) => [(7, v7), (27, i64 i)]) (fun (i : Nat) (xs : (List It)) (v7 : Value) w' => M w (Nn) w' [Rg.sl ip 112 v7 xs, Rg.pool xs xs] ∧ i ≤ fs.length ∧ xs.map Prod.snd = sgl (fs.take i) ∧ xs.length ≤ i) (fun (i : Nat) (xs : (List It)) (v7 : Value) => fs.length - i) 0 [] nilI ?_ ?_ ?_
      · exact Sub.cons rfl <| Sub.cons rfl <| Sub.nil _
      · exact ⟨hM, Nat.zero_le _, rfl, Nat.le_refl _⟩
      rintro i xs v7 w1 ⟨hM, hi, hxs, hxl⟩
      refine C.seq <| C.region <| E.bin rfl rfl rfl rfl <| E.nil <| X.next <| C.seq <| ?_
      refine C.cond' rfl (fun hC2 => ?_) (fun hC2 => ?_)
      ·
        have hi' : i < fs.length := by omega
        have hsn := sgl_snoc hi'
        refine C.skip <| X.next <| ?_

        refine C.cut2 [(0, _), (1, _), (25, _), (26, _), (27, _)] rfl (fun (xs : (List It)) (v7 : Value) => [(7, v7)]) (fun (xs : (List It)) (v7 : Value) w' => M w (Nn) w' [Rg.sl ip 112 v7 xs, Rg.pool xs xs] ∧ xs.map Prod.snd = sgl (fs.take (i + 1)) ∧ xs.length ≤ i + 1) ?_ ?_
        ·
          refine C.block <| C.seq <| C.region <| E.mv rfl rfl <| ?_
          refine E.get (k := i) rfl rfl (hM.arg0 hr') rfl (by omega) Tryd.underlying29 (by kernel_rfl) Tryd.underlying3 rfl rfl rfl ?_
          rw [nz_get hi']
          refine E.asg rfl rfl <| E.asg rfl rfl <| E.nil <| X.next <| C.seq <| C.region <| E.mv rfl rfl <| E.bin rfl rfl rfl rfl <| E.nil <| X.next <| ?_
          refine C.cond' rfl (fun hC3 => ?_) (fun hC3 => ?_)
          ·
            refine C.region <| E.mv rfl rfl <| E.mv rfl rfl <| E.mv rfl rfl <| ?_
            refine E.buildC (cs := [_, _, _, _]) [.int .i64 0, .int .i64 0, .pointer none, .pointer none] [0, 1] rfl rfl (by kernel_rfl) rfl ?_
            refine E.boxM hM rfl rfl rfl ?_
            intro b38 w2 hM
            try dsimp only [List.nil_append, List.cons_append, List.set_cons_zero, List.set_cons_succ, repl] at hM
            refine E.pushM (enc := ip) 0 (b38, Tr.leaf fs[i] i) hM rfl rfl rfl Tryd.underlying111 elem_Tp_prefix_item_int rfl (by omega) (by omega) (by simp) rfl rfl ?_
            intro v40 u40 w3 hM
            try dsimp only [List.nil_append, List.cons_append, List.set_cons_zero, List.set_cons_succ, repl] at hM
            have hM := hM.poolAdd (t := Tr.leaf fs[i] i) 1 2 (by decide) rfl rfl rfl
            try dsimp only [List.nil_append, List.cons_append, List.set_cons_zero, List.set_cons_succ, repl] at hM
            have hM := hM.poolSub 1 rfl (P' := xs ++ [(b38, Tr.leaf fs[i] i)]) (fun x h => List.mem_append_left _ h)
            try dsimp only [List.nil_append, List.cons_append, List.set_cons_zero, List.set_cons_succ, repl] at hM

            refine E.asg rfl rfl <| E.nil <| X.outN <| X.join2 (xs ++ [(b38, Tr.leaf fs[i] i)]) v40 (Sub.cons rfl <| Sub.nil _) rfl ⟨hM.pick [0, 1] (by decide), by rw [hsn, if_pos (by omega), List.map_append, hxs]; rfl, by simp; omega⟩
          ·

            refine C.skip <| X.outN <| X.join2 xs v7 (Sub.cons rfl <| Sub.nil _) rfl ⟨hM, by rw [hsn, if_neg (by omega), List.append_nil, hxs], by omega⟩
        rintro xs v7 w4 ⟨hM, hxs, hxl⟩
        refine C.region <| ?_
        refine E.add rfl rfl (by omega) rfl ?_

        refine E.mv rfl rfl <| E.nil <| X.again3 (i + 1) xs v7 (Sub.cons rfl <| Sub.cons rfl <| Sub.nil _) rfl ⟨hM, by omega, hxs, by omega⟩ (by omega)
      ·
        obtain rfl : i = fs.length := by omega
        rw [List.take_length] at hxs
        have hn : (isort Tr.wt (sgl fs)).length = xs.length := by rw [isort_len, ← hxs, List.length_map]
        have hgd := sgl_gd hbB
        have hmp : (isort wi xs).map Prod.snd = (isort Tr.wt (sgl fs)) := by rw [← hxs]; exact isort_map wi Tr.wt Prod.snd (fun _ => rfl) xs
        have hp30 : 2 ^ mo ≤ 2 ^ 30 := Nat.pow_le_pow_right (by decide) hmo.2
        refine C.exit <| X.exitT <| X.exitT <| X.outE <| X.next <| C.seq <| C.seq <| C.region <| E.mv rfl rfl <| ?_
        refine E.lenv rfl (Rd.shape (hM.sl 0 rfl)) Tryd.underlying111 rfl ?_
        refine E.mv rfl rfl <| ?_
        refine E.shl rfl rfl (by omega) (shl_nat (a := 1) (k := mo) (c := 2 ^ mo) (by omega) (Nat.one_mul _) (by omega)) rfl ?_
        refine E.bin rfl rfl rfl rfl <| E.nil <| X.next <| ?_
        refine C.cond' rfl (fun hC4 => ?_) (fun hC4 => ?_)
        ·
          have hlv := lnv_cap hl4 hok hmo (by rw [hSg, hn]; exact Int.ofNat_lt.1 hC4)
          refine C.seq <| C.region <| E.asg rfl rfl <| E.asg rfl rfl <| E.nil <| X.next <| C.ret <| X.retT <| ret2 rfl rfl rfl ?_
          exact ⟨_, by rw [hlv], by rw [hlv]; exact (hM.nil i64 3).pick [2] (by decide)⟩
        ·
          have hcap : ¬ 2 ^ mo < xs.length := fun h => hC4 (Int.ofNat_lt.2 h)
          have hlv := lnv_ok hl4 hok hmo (by rw [hSg, hn]; exact hcap)
          rw [hSg, ← hlz] at hlv
          refine C.skip <| X.next <| C.seq <| C.region <| E.mv rfl rfl <| ?_
          refine E.lenv rfl (Rd.shape (hM.arg0 hr')) Tryd.underlying29 rfl ?_
          rw [nz_len]
          refine E.makeM (by_ := 8) (enc := i64) 0 hM rfl Tryd.underlying29 (by kernel_rfl) rfl (by first | omega | (simp only [List.length_replicate, List.length_append, List.length_set, List.length_cons, List.length_nil, List.length_map, List.length_range, List.length_take, List.length_drop, List.length_zipWith] at *; omega)) (by first | omega | (simp only [List.length_replicate, List.length_append, List.length_set, List.length_cons, List.length_nil, List.length_map, List.length_range, List.length_take, List.length_drop, List.length_zipWith] at *; omega)) rfl ?_
          intro v49 w5 hM
          try dsimp only [List.nil_append, List.cons_append, List.set_cons_zero, List.set_cons_succ, repl] at hM
          refine E.varM (z := .slice none 0 0) hM (by kernel_rfl) rfl rfl (fun _ => rfl) (by kernel_rfl) (by first | rfl | exact (hM.sl 0 rfl).one | exact (hM.sl 1 rfl).one | exact (hM.sl 2 rfl).one | exact (hM.sl 3 rfl).one | exact (hM.sl 4 rfl).one | exact (hM.slF 0 rfl).one | exact (hM.slF 1 rfl).one | exact (hM.slF 2 rfl).one | exact (hM.slF 3 rfl).one | exact (hM.slF 4 rfl).one | exact RdL.one (by assumption) | exact RdF.one (by assumption) | assumption) ?_
          intro b10 w6 hM
          try dsimp only [List.nil_append, List.cons_append, List.set_cons_zero, List.set_cons_succ, repl] at hM
          refine E.nil <| X.next <| ?_

          refine C.cut0 [(1, _), (7, _), (10, _)] rfl [] (fun w' => M w (Nn) w' [Rg.sl ip 112 v7 xs, Rg.pool xs xs, Rg.sl i64 3 v49 (ini (isort Tr.wt (sgl fs)) fs.length), Rg.blk b10 29 [v49]]) ?_ ?_
          ·
            refine C.seq <| C.region <| E.mv rfl rfl <| ?_
            refine E.lenv rfl (Rd.shape (hM.sl 0 rfl)) Tryd.underlying111 rfl ?_
            refine E.bin rfl rfl rfl rfl <| E.nil <| X.next <| ?_
            refine C.cond' rfl (fun hC5 => ?_) (fun hC5 => ?_)
            ·
              obtain ⟨x0, hx0⟩ : ∃ x0, xs = [x0] := by
                match xs, hC5 with
                | [x0], _ => exact ⟨x0, rfl⟩
                | [], h => simp at h
                | _ :: _ :: _, h => simp at h; omega
              subst hx0
              obtain ⟨b0, t0⟩ := x0
              obtain ⟨f0, s0, rfl, hf1, hf2, hs0⟩ := sgl_spec hbB t0 (by rw [← hxs]; simp)
              refine C.drawnT 8 (by kernel_rfl) (by kernel_rfl) fun wh7 hwh7 => ?_
              have hM := hM.ext hwh7
              refine S.load rfl Tryd.underlying29 rfl (hM.bcell 3 rfl rfl) rfl ?_
              refine S.mv rfl rfl <| ?_
              refine S.idx1 (k := 0) rfl rfl (hM.sl 0 rfl) rfl (by simp) Tryd.underlying111 (by kernel_rfl) rfl ?_
              refine S.load rfl Tryd.underlying112 rfl ((hM.sl 0 rfl).cell (by simp)) rfl ?_
              refine S.nilc rfl rfl <| ?_
              refine S.fld (o := 1) (sz := 0) rfl Tryd.underlying114 rfl rfl (by kernel_rfl) rfl ?_
              refine S.load rfl Tryd.underlying3 rfl ((hM.pool 1 rfl).leaf (f := f0) (s := s0) (by simp)).1 rfl ?_
              refine S.idx1 (k := s0) rfl rfl (hM.sl 2 rfl) rfl (by simp; exact hs0) Tryd.underlying29 (by kernel_rfl) rfl ?_
              refine S.nil ?_
              refine E.storeL (j := s0) 2 1 hM rfl rfl rfl (by kernel_rfl) rfl rfl (by simp; exact hs0) ?_
              intro w8 hM
              try dsimp only [List.nil_append, List.cons_append, List.set_cons_zero, List.set_cons_succ, repl] at hM

              refine E.nil <| X.join0  (Sub.nil _) rfl (hM.to (by rw [← hxs]; exact congrArg (fun L => [_, _, Rg.sl i64 3 v49 L, _]) (ini_one (b := b0) (f := f0) hs0)))
            ·

              refine C.skip <| X.join0  (Sub.nil _) rfl (hM.to (by rw [ini, if_neg (by omega)]; rfl))
          rintro  w9 hM
          refine C.seq <| C.seq <| C.region <| E.mv rfl rfl <| ?_
          refine E.lenv rfl (Rd.shape (hM.sl 0 rfl)) Tryd.underlying111 rfl ?_
          refine E.bin rfl rfl rfl rfl <| E.nil <| X.next <| ?_
          refine C.cond' rfl (fun hC6 => ?_) (fun hC6 => ?_)
          ·
            refine C.seq <| C.region <| ?_
            refine E.load rfl Tryd.underlying29 rfl (hM.bcell 3 rfl rfl) rfl ?_
            refine E.asg rfl rfl <| E.asg rfl rfl <| E.nil <| X.next <| C.ret <| X.retT <| ret2 rfl rfl rfl ?_
            exact ⟨_, by rw [hlv], by rw [hlv, lens, if_pos (by omega)]; exact hM.pick [2] (by decide)⟩
          ·
            rw [ini, if_neg (by omega)] at hM
            refine C.skip <| X.next <| C.seq <| C.region <| E.mv rfl rfl <| ?_
            refine E.call rfl rfl (sort_ret v7 xs xs _ (hM.pick [0, 1] (by decide)).sep (fun x h => h) (by omega)) ?_
            rintro _ w10 m
            have hM := hM.calls [0, 1] (by decide) rfl (by simp) m
            try dsimp only [List.nil_append, List.cons_append, List.set_cons_zero, List.set_cons_succ, repl] at hM
            refine E.nil <| X.next <| C.seq <| C.region <| E.mv rfl rfl <| E.asg rfl rfl <| E.nil <| X.next <| C.seq <| C.seq <| C.region <| E.mv rfl rfl <| ?_
            refine E.subN (a := mo) (b := 1) rfl rfl (by omega) rfl ?_
            refine E.mv rfl rfl <| E.nil <| X.next <| C.block <| ?_
            have hM := hM.new (Ext.refl _) (r := Rg.emp) trivial (fun _ h => h.elim)
            try dsimp only [List.nil_append, List.cons_append, List.set_cons_zero, List.set_cons_succ, repl] at hM
            have hyl := isort_len wi xs
            have hS1 : ∀ t ∈ (isort Tr.wt (sgl fs)), t.wt ≤ 1099511627776 := fun t h => (hgd t h).2
            have hS2 : ∀ t ∈ (isort Tr.wt (sgl fs)), Gd fs.length t := fun t h => (hgd t h).1

            refine C.loop5 [(7, _), (10, _), (69, _)] rfl (fun (k : Nat) (P : (List It)) (zs1 : (List It)) (v11 : Value) (rx : Rg) => [(11, v11), (70, i64 k)]) (fun (k : Nat) (P : (List It)) (zs1 : (List It)) (v11 : Value) (rx : Rg) w' => M w (Nn) w' [Rg.sl ip 112 v7 (isort wi xs), Rg.pool P P, Rg.sl i64 3 v49 (zeros fs.length), Rg.blk b10 29 [v49], rx] ∧ k ≤ mo - 1 ∧ zs1.map Prod.snd = lvl (isort Tr.wt (sgl fs)) k ∧ (∀ x ∈ (isort wi xs), x ∈ P) ∧ (∀ x ∈ zs1, x ∈ P) ∧ ((v11 = v7 ∧ zs1 = (isort wi xs)) ∨ rx = Rg.sl ip 112 v11 zs1)) (fun (k : Nat) (P : (List It)) (zs1 : (List It)) (v11 : Value) (rx : Rg) => mo - 1 - k) 0 xs (isort wi xs) v7 Rg.emp ?_ ?_ ?_
            · exact Sub.cons rfl <| Sub.cons rfl <| Sub.nil _
            · exact ⟨hM, Nat.zero_le _, hmp, fun x h => (isort_mem _ _ _).1 h, fun x h => (isort_mem _ _ _).1 h, .inl ⟨rfl, rfl⟩⟩
            rintro k P zs1 v11 rx w11 ⟨hM, hk, hzs, hyP, hzP, hdj⟩
            refine C.seq <| C.region <| E.bin rfl rfl rfl rfl <| E.nil <| X.next <| C.seq <| ?_
            refine C.cond' rfl (fun hC7 => ?_) (fun hC7 => ?_)
            ·
              have hll := (lvl_len (S := (isort Tr.wt (sgl fs))) (by omega) k).1
              have hzl : zs1.length = (lvl (isort Tr.wt (sgl fs)) k).length := by rw [← hzs, List.length_map]
              have htw := lvl_wt (k := k) hS1 (by omega) (by omega)
              have hwz : ∀ x ∈ zs1, wi x ≤ 2305843009213693952 := fun x hx => by
                have := tw_mem (l := lvl (isort Tr.wt (sgl fs)) k) (t := x.2) (by rw [← hzs]; exact List.mem_map_of_mem hx)
                show x.2.wt ≤ _; omega
              refine C.skip <| X.next <| C.seq <| C.block <| C.region <| E.mv rfl rfl <| E.mv rfl rfl <| ?_
              refine E.call rfl rfl (packages_ret v11 zs1 P P _ (hM.pool 1 rfl) (lrd hM hdj) hzP (by omega) hwz) ?_
              rintro v74 w12 ⟨ps, hps, m⟩
              have hM := hM.call m
              try dsimp only [List.nil_append, List.cons_append, List.set_cons_zero, List.set_cons_succ, repl] at hM
              have hM := hM.poolJoin 1 6 (by decide) rfl rfl (fun x h => h)
              try dsimp only [List.nil_append, List.cons_append, List.set_cons_zero, List.set_cons_succ, repl] at hM
              have hM := hM.poolSub 1 rfl (P' := P ++ ps) (fun x h => List.mem_append_left _ h)
              try dsimp only [List.nil_append, List.cons_append, List.set_cons_zero, List.set_cons_succ, repl] at hM
              have hpl : ps.length = (lvl (isort Tr.wt (sgl fs)) k).length / 2 := by rw [← List.length_map (f := Prod.snd), hps, pkg_len, hzs]
              try dsimp only [List.nil_append, List.cons_append, List.set_cons_zero, List.set_cons_succ, repl] at hM
              refine E.call rfl rfl (merge_ret v7 v74 (isort wi xs) ps (P ++ ps) (P ++ ps) _ (hM.pool 1 rfl) (hM.sl 0 rfl) (hM.sl 5 rfl) (fun x h => List.mem_append_left _ (hyP x h)) (fun x h => List.mem_append_right _ h) (by omega)) ?_
              rintro v75 w13 m
              have hM := hM.call m
              try dsimp only [List.nil_append, List.cons_append, List.set_cons_zero, List.set_cons_succ, repl] at hM
              refine E.asg rfl rfl <| E.nil <| X.outN <| X.next <| C.region <| ?_
              refine E.add rfl rfl (by omega) rfl ?_

              refine E.mv rfl rfl <| E.nil <| X.again5 (k + 1) (P ++ ps) (mrg wi (isort wi xs) ps) v75 (Rg.sl ip 112 v75 (mrg wi (isort wi xs) ps)) (Sub.cons rfl <| Sub.cons rfl <| Sub.nil _) rfl ⟨hM.pick [0, 1, 2, 3, 7] (by decide), by omega, by rw [mrg_map wi Tr.wt Prod.snd (fun _ => rfl), hmp, hps, hzs]; rfl, fun x h => List.mem_append_left _ (hyP x h), fun x h => ((mrg_mem _ _ _ _).1 h).elim (fun h => List.mem_append_left _ (hyP x h)) (fun h => List.mem_append_right _ h), .inr rfl⟩ (by omega)
            ·
              obtain rfl : k = mo - 1 := by omega
              have hlong := lvl_long (S := (isort Tr.wt (sgl fs))) (m := mo) (by omega) hmo.1 (by rw [hn]; omega)
              have hzl : zs1.length = (lvl (isort Tr.wt (sgl fs)) (mo - 1)).length := by rw [← hzs, List.length_map]
              have htw := lvl_wt (k := mo - 1) hS1 (by omega) (by omega)
              have hLL : (zs1.take (2 * xs.length - 2)).map Prod.snd = ((lvl (isort Tr.wt (sgl fs)) (mo - 1)).take (2 * xs.length - 2)) := by rw [List.map_take, hzs]
              have hgL : ∀ t ∈ ((lvl (isort Tr.wt (sgl fs)) (mo - 1)).take (2 * xs.length - 2)), Gd fs.length t := fun t ht => lvl_gd hS2 _ t (List.mem_of_mem_take ht)
              have hLl : ((lvl (isort Tr.wt (sgl fs)) (mo - 1)).take (2 * xs.length - 2)).length = 2 * xs.length - 2 := by rw [List.length_take]; omega
              have hzt : (zs1.take (2 * xs.length - 2)).length = 2 * xs.length - 2 := by rw [List.length_take]; omega
              refine C.exit <| X.exitT <| X.exitT <| X.outE <| X.next <| C.seq <| C.seq <| C.region <| E.mv rfl rfl <| E.mv rfl rfl <| ?_
              refine E.lenv rfl (Rd.shape (hM.sl 0 rfl)) Tryd.underlying111 rfl ?_
              rw [hyl]
              refine E.mulN (a := 2) (b := xs.length) rfl rfl (by omega) rfl ?_
              refine E.subN (a := 2 * xs.length) (b := 2) rfl rfl (by omega) rfl ?_
              refine E.slcP (k := .i64) 0 (2 * xs.length - 2) rfl (.inr ⟨rfl, rfl⟩) (.inl rfl) (lrd hM hdj) Tryd.underlying111 (by kernel_rfl) (by omega) (by omega) rfl ?_
              refine E.lenv rfl (Rd.shape (lrd_take (lrd hM hdj) (n := 2 * xs.length - 2) (by omega))) Tryd.underlying111 rfl ?_
              rw [hzt]
              refine E.mv rfl rfl <| E.nil <| X.next <| C.block <| ?_

              refine C.loop1 [(10, _), (82, _), (83, _)] rfl (fun (j : Nat) => [(84, i64 j)]) (fun (j : Nat) w' => M w (Nn) w' [Rg.sl ip 112 v7 (isort wi xs), Rg.pool P P, Rg.sl i64 3 v49 (bump (zeros fs.length) ((((lvl (isort Tr.wt (sgl fs)) (mo - 1)).take (2 * xs.length - 2)).take j).flatMap Tr.sy)), Rg.blk b10 29 [v49], rx] ∧ j ≤ 2 * xs.length - 2) (fun (j : Nat) => 2 * xs.length - 2 - j) 0 ?_ ?_ ?_
              · exact Sub.cons rfl <| Sub.nil _
              · exact ⟨hM, Nat.zero_le _⟩
              rintro j w14 ⟨hM, hj⟩
              refine C.seq <| C.region <| E.bin rfl rfl rfl rfl <| E.nil <| X.next <| C.seq <| ?_
              refine C.cond' rfl (fun hC8 => ?_) (fun hC8 => ?_)
              ·
                have hj' : j < ((lvl (isort Tr.wt (sgl fs)) (mo - 1)).take (2 * xs.length - 2)).length := by omega
                have hjz : j < (zs1.take (2 * xs.length - 2)).length := by omega
                have hft := flat_len (l := ((lvl (isort Tr.wt (sgl fs)) (mo - 1)).take (2 * xs.length - 2)).take j) (n := fs.length) (fun t ht => hgL t (List.mem_of_mem_take ht))
                have ht1 := tw_take ((lvl (isort Tr.wt (sgl fs)) (mo - 1)).take (2 * xs.length - 2)) j
                have ht2 := tw_take (lvl (isort Tr.wt (sgl fs)) (mo - 1)) (2 * xs.length - 2)
                have hg1 := (hgL _ (List.getElem_mem hj')).sy
                have hw1 := tw_mem (List.getElem_mem hj')
                have hel : (zs1.take (2 * xs.length - 2))[j].2 = ((lvl (isort Tr.wt (sgl fs)) (mo - 1)).take (2 * xs.length - 2))[j] := by
                  have h1 : ((zs1.take (2 * xs.length - 2)).map Prod.snd)[j]? = ((lvl (isort Tr.wt (sgl fs)) (mo - 1)).take (2 * xs.length - 2))[j]? := by rw [hLL]
                  rw [List.getElem?_map, List.getElem?_eq_getElem hjz, List.getElem?_eq_getElem hj'] at h1
                  exact Option.some.inj h1
                have hzm := hzP _ (List.mem_of_mem_take (List.getElem_mem hjz))
                refine C.skip <| X.next <| C.seq <| C.block <| C.seq <| C.region <| ?_
                refine E.get (k := j) rfl rfl (lrd_take (lrd hM hdj) (n := 2 * xs.length - 2) (by omega)) rfl hjz Tryd.underlying111 (by kernel_rfl) Tryd.underlying112 rfl rfl rfl ?_
                refine E.asg rfl rfl <| E.nil <| X.next <| C.region <| E.mv rfl rfl <| ?_
                refine E.mkfn rfl rfl ?_
                refine E.call rfl rfl (each_ok ((lvl (isort Tr.wt (sgl fs)) (mo - 1)).take (2 * xs.length - 2))[j] (zs1.take (2 * xs.length - 2))[j].1 b10 v49 _ P _ (hM.pick [3, 2, 1] (by decide)).sep (by rw [← hel]; exact hzm) (fun s hs => by rw [bump_len, zeros, List.length_replicate]; exact hg1.1 s hs) (fun z hz => by have := bump_bd (m := 135107988821114880) _ _ (fun y hy => by rw [zeros] at hy; have := List.eq_of_mem_replicate hy; subst this; constructor; omega; omega) z hz; omega)) ?_
                rintro _ w15 m
                have hM := hM.calls [3, 2, 1] (by decide) rfl (by simp) m
                try dsimp only [List.nil_append, List.cons_append, List.set_cons_zero, List.set_cons_succ, repl] at hM
                rw [← bump_app, ← flat_snoc hj'] at hM
                try dsimp only [List.nil_append, List.cons_append, List.set_cons_zero, List.set_cons_succ, repl] at hM
                refine E.nil <| X.outN <| X.next <| C.region <| ?_
                refine E.add rfl rfl (by omega) rfl ?_

                refine E.mv rfl rfl <| E.nil <| X.again1 (j + 1) (Sub.cons rfl <| Sub.nil _) rfl ⟨hM, by omega⟩ (by omega)
              ·
                obtain rfl : j = 2 * xs.length - 2 := by omega
                rw [List.take_of_length_le (by omega)] at hM
                refine C.exit <| X.exitT <| X.exitT <| X.outE <| X.next <| C.seq <| C.region <| ?_
                refine E.load rfl Tryd.underlying29 rfl (hM.bcell 3 rfl rfl) rfl ?_
                refine E.asg rfl rfl <| E.asg rfl rfl <| E.nil <| X.next <| C.ret <| ret2 rfl rfl rfl ?_
                exact ⟨_, by rw [hlv], by rw [hlv, lens, if_neg (by omega), hn]; exact hM.pick [2] (by decide)⟩

end Go.Proofs.YtcmgbjmcklfkcaaDoor
