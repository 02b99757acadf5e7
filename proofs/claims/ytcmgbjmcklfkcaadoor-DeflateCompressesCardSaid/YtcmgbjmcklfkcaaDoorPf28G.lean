/- prefix: the reference's Lengths. -/
import Derived.Test.YtcmgbjmcklfkcaaDoorPf27G
namespace Go.Proofs.YtcmgbjmcklfkcaaDoor
set_option linter.unusedSimpArgs false
set_option linter.unusedVariables false
open Go.RowKit Sym

theorem lvl_two (S : List Tr) : ∀ k, (lvl S k).length ≤ 2 * S.length
  | 0 => by simp [lvl]; omega
  | k + 1 => by have := lvl_two S k; rw [lvl, mrg_len, pkg_len]; omega
abbrev ts (l : List Tr) : Nat := (l.map fun t => t.sy.length).sum
theorem mrg_ts : ∀ (xs ys : List Tr), ts (mrg Tr.wt xs ys) = ts xs + ts ys
  | [], ys => by rw [mrg]; simp [ts]
  | x :: xs, [] => by rw [mrg_nil]; simp [ts]
  | x :: xs, y :: ys => by
    by_cases h : Tr.wt x ≤ Tr.wt y
    · have := mrg_ts xs (y :: ys)
      rw [mrg_le h]; simp only [ts, List.map_cons, List.sum_cons] at *; omega
    · have := mrg_ts (x :: xs) ys
      rw [mrg_gt h]; simp only [ts, List.map_cons, List.sum_cons] at *; omega
termination_by xs ys => xs.length + ys.length
theorem pkg_ts : ∀ l : List Tr, ts (pkg l) ≤ ts l
  | [] => Nat.le_refl _
  | [_] => by simp [pkg, ts]
  | a :: b :: l => by have := pkg_ts l; simp only [pkg, ts, List.map_cons, List.sum_cons, Tr.sy, List.length_append] at *; omega
theorem lvl_ts (S : List Tr) : ∀ k, ts (lvl S k) ≤ (k + 1) * ts S
  | 0 => by simp [lvl]
  | k + 1 => by
    have h1 := lvl_ts S k
    have h2 := pkg_ts (lvl S k)
    rw [lvl, mrg_ts, Nat.succ_mul]; omega
theorem ts_mem {l : List Tr} {t : Tr} (h : t ∈ l) : t.sy.length ≤ ts l := by
  induction l with
  | nil => cases h
  | cons a l ih =>
    rcases List.mem_cons.1 h with rfl | h
    · simp [ts]
    · have := ih h; simp only [ts, List.map_cons, List.sum_cons] at *; omega
theorem ts_leaf {l : List Tr} (h : ∀ t ∈ l, ∃ f s, t = Tr.leaf f s) : ts l = l.length := by
  induction l with
  | nil => rfl
  | cons a l ih =>
    obtain ⟨f, s, rfl⟩ := h a (by simp)
    have := ih fun t ht => h t (by simp [ht])
    simp only [ts, List.map_cons, List.sum_cons, Tr.sy, List.length_cons, List.length_nil] at *; omega
theorem bump_one {X : List Int} {sy : List Nat} {q : Nat} (hq : q < sy.length) (hs : sy[q] < (bump X (sy.take q)).length) : (bump X (sy.take q)).set sy[q] ((bump X (sy.take q))[sy[q]] + 1) = bump X (sy.take (q + 1)) := by
  rw [← List.take_append_getElem hq, bump_app]
  show _ = (bump X (sy.take q)).set sy[q] ((bump X (sy.take q)).getD sy[q] 0 + 1)
  rw [List.getD_eq_getElem?_getD, List.getElem?_eq_getElem hs]; rfl
theorem lrdR {w0 w : World} {S : Nat → Prop} {r1 r2 rx : Rg} {v6 v9 : Value} {ys zs : List Ir} (hM : M w0 S w [Rg.slF ec 2 128 v6 ys, r1, r2, rx]) (h : (v9 = v6 ∧ zs = ys) ∨ rx = Rg.slF ec 2 128 v9 zs) : RdF ec 2 w v9 zs := by
  rcases h with ⟨rfl, rfl⟩ | rfl
  · exact hM.slF 0 rfl
  · exact hM.slF 3 rfl
theorem lens_eq {S : List Tr} {n m : Nat} : lens S n m = bump (ini S n) (((lvl S (m - 1)).take (2 * S.length - 2)).flatMap Tr.sy) := by
  unfold lens
  by_cases h : S.length < 2
  · rw [if_pos h, show 2 * S.length - 2 = 0 by omega]; rfl
  · rw [if_neg h, ini, if_neg (by omega)]
set_option maxHeartbeats 4000000 in
set_option maxRecDepth 4000 in
theorem rLengths_ret (p : Value) (zs : List Int) (most : Int) (w : World) (hr : RdL i64 w p zs) :
    Ret Tryd.prog 55 #[p, i64 most] w fun v w' => ∃ vo, v = .tuple #[vo, i64 (lnv zs most).2] ∧ M w Nn w' [Rg.sl i64 3 vo (lnv zs most).1] := by
  have hM := M.start w
  refine enter Tryd.func55 rfl (by kernel_rfl) Tryd.ntmps55 rfl ?_
  refine C.seq <| C.region <| E.asg rfl rfl <| E.asg rfl rfl <| E.nil <| X.next <| C.seq <| C.seq <| C.region <| E.mv rfl rfl <| ?_
  refine E.lenv rfl (Rd.shape (hM.arg0 hr)) Tryd.underlying29 rfl ?_
  refine E.bin rfl rfl rfl rfl <| E.nil <| X.next <| ?_
  refine C.cond' rfl (fun hC0 => ?_) (fun hC0 => ?_)
  ·
    have hlv : lnv zs most = ([], 4) := by unfold lnv; rw [if_pos (by omega)]
    refine C.seq <| C.region <| E.asg rfl rfl <| E.asg rfl rfl <| E.nil <| X.next <| C.ret <| X.retT <| ret2 rfl rfl rfl ?_
    exact ⟨_, by rw [hlv], by rw [hlv]; exact hM.nil i64 3⟩
  ·
    have hl4 : zs.length ≤ 4096 := by omega
    refine C.skip <| X.next <| C.seq <| ?_

    refine C.cut0 [(0, _), (1, _)] rfl [(26, .bool (decide (¬ okr zs 1099511627776 = true ∨ most < 1 ∨ 30 < most)))] (fun w' => M w (Nn) w' []) ?_ ?_
    ·
      refine C.region <| E.mv rfl rfl <| ?_
      refine E.call rfl rfl (right_ret p zs 1099511627776 _ (hM.arg0 hr)) ?_
      rintro _ w1 ⟨rfl, x1⟩
      have hM := hM.ext x1
      try dsimp only [List.nil_append, List.cons_append, List.set_cons_zero, List.set_cons_succ, repl] at hM
      refine E.bin rfl rfl rfl rfl <| E.mv rfl rfl <| ?_
      refine E.split 19 rfl (fun g19 => ?_) (fun g19 => ?_)
      ·
        try simp only [decide_eq_true_eq, decide_eq_false_iff_not, ne_eq, Decidable.not_not, Bool.not_eq_true', Bool.not_eq_false'] at g19
        have ho : okr zs 1099511627776 = false := by cases h : okr zs 1099511627776; rfl; rw [h] at g19; exact (g19 rfl).elim

        refine E.off rfl rfl rfl rfl <| E.off rfl rfl rfl rfl <| E.pick rfl rfl rfl <| E.mv rfl rfl <| E.off rfl rfl rfl rfl <| E.off rfl rfl rfl rfl <| E.pick rfl rfl rfl <| E.nil <| X.join0  (Sub.cons (look_eq rfl (by rw [ho]; simp)) <| Sub.nil _) rfl hM
      ·
        try simp only [decide_eq_true_eq, decide_eq_false_iff_not, ne_eq, Decidable.not_not, Bool.not_eq_true', Bool.not_eq_false'] at g19
        have ho : okr zs 1099511627776 = true := by cases h : okr zs 1099511627776; rw [h] at g19; exact absurd g19 (by decide); rfl
        refine E.on rfl rfl (E.mv rfl rfl ?_)
        refine E.on rfl rfl (E.bin rfl rfl rfl rfl ?_)
        refine E.pick rfl rfl rfl <| E.mv rfl rfl <| ?_
        refine E.split 23 rfl (fun g23 => ?_) (fun g23 => ?_)
        ·
          try simp only [decide_eq_true_eq, decide_eq_false_iff_not, ne_eq, Decidable.not_not, Bool.not_eq_true', Bool.not_eq_false'] at g23

          refine E.off rfl rfl rfl rfl <| E.off rfl rfl rfl rfl <| E.pick rfl rfl rfl <| E.nil <| X.join0  (Sub.cons (look_eq rfl (by rw [ho]; simp; omega)) <| Sub.nil _) rfl hM
        ·
          try simp only [decide_eq_true_eq, decide_eq_false_iff_not, ne_eq, Decidable.not_not, Bool.not_eq_true', Bool.not_eq_false'] at g23
          refine E.on rfl rfl (E.mv rfl rfl ?_)
          refine E.on rfl rfl (E.bin rfl rfl rfl rfl ?_)

          refine E.pick rfl rfl rfl <| E.nil <| X.join0  (Sub.cons (look_eq rfl (by rw [ho]; simp; omega)) <| Sub.nil _) rfl hM
    rintro  w1 hM
    refine C.cond' rfl (fun hC1 => ?_) (fun hC1 => ?_)
    ·
      have hlv : lnv zs most = ([], 3) := by
        unfold lnv
        rw [if_neg (by omega)]
        by_cases h : okr zs 1099511627776 = true
        · rw [if_neg (fun c => c h), if_pos (hC1.resolve_left (fun c => c h))]
        · rw [if_pos h]
      refine C.seq <| C.region <| E.asg rfl rfl <| E.asg rfl rfl <| E.nil <| X.next <| C.ret <| X.retT <| ret2 rfl rfl rfl ?_
      exact ⟨_, by rw [hlv], by rw [hlv]; exact hM.nil i64 3⟩
    ·
      have hok : okr zs 1099511627776 = true := Decidable.byContradiction fun h => hC1 (.inl h)
      obtain ⟨mo, rfl⟩ : ∃ mo : Nat, most = (mo : Int) := ⟨most.toNat, by omega⟩
      have hmo : 1 ≤ mo ∧ mo ≤ 30 := by omega
      obtain ⟨hz, hbB⟩ := toN_nz (m := 1099511627776) hok
      have hlz := toN_len zs
      obtain ⟨fs, hfs⟩ : ∃ fs, fs = toN zs := ⟨_, rfl⟩
      have hSg : Sg zs = (isort Tr.wt (sgl fs)) := by rw [hfs]
      rw [← hfs] at hz hbB hlz
      have hr' : RdL i64 w p (nz fs) := by rw [← hz]; exact hr
      have hnl := nz_len fs
      have hSl := sgl_len fs
      have hSi := isort_len Tr.wt (sgl fs)
      refine C.skip <| X.next <| C.seq <| C.region <| E.asg rfl rfl <| E.nil <| X.next <| C.seq <| C.seq <| C.region <| E.asg rfl rfl <| E.nil <| X.next <| C.block <| ?_
      have hM := (hM.nilF ec 2 128).lpsNil
      try dsimp only [List.nil_append, List.cons_append, List.set_cons_zero, List.set_cons_succ, repl] at hM

      refine C.loop4 [(0, _), (1, _)] rfl (fun (i : Nat) (ss : (List Ir)) (N : (List Ir)) (v6 : Value) => [(6, v6), (7, i64 i)]) (fun (i : Nat) (ss : (List Ir)) (N : (List Ir)) (v6 : Value) w' => M w (Nn) w' [Rg.slF ec 2 128 v6 ss, Rg.lps N] ∧ i ≤ fs.length ∧ ss.map Prod.snd = isort Tr.wt (sgl (fs.take i)) ∧ (∀ x ∈ ss, x ∈ N) ∧ ss.length ≤ i) (fun (i : Nat) (ss : (List Ir)) (N : (List Ir)) (v6 : Value) => fs.length - i) 0 [] [] (.slice none 0 0) ?_ ?_ ?_
      · exact Sub.cons rfl <| Sub.cons rfl <| Sub.nil _
      · exact ⟨hM, Nat.zero_le _, rfl, (fun x h => h), Nat.le_refl _⟩
      rintro i ss N v6 w2 ⟨hM, hi, hss, hsN, hsl⟩
      refine C.seq <| C.seq <| C.region <| E.mv rfl rfl <| E.mv rfl rfl <| ?_
      refine E.lenv rfl (Rd.shape (hM.arg0 hr')) Tryd.underlying29 rfl ?_
      rw [nz_len]
      refine E.bin rfl rfl rfl rfl <| E.nil <| X.next <| ?_
      refine C.cond' rfl (fun hC2 => ?_) (fun hC2 => ?_)
      ·
        have hi' : i < fs.length := by omega
        have hsn := sgl_snoc hi'
        refine C.skip <| X.next <| ?_

        refine C.cut3 [(0, _), (1, _), (7, _)] rfl (fun (ss : (List Ir)) (N : (List Ir)) (v6 : Value) => [(6, v6)]) (fun (ss : (List Ir)) (N : (List Ir)) (v6 : Value) w' => M w (Nn) w' [Rg.slF ec 2 128 v6 ss, Rg.lps N] ∧ ss.map Prod.snd = isort Tr.wt (sgl (fs.take (i + 1))) ∧ (∀ x ∈ ss, x ∈ N) ∧ ss.length ≤ i + 1) ?_ ?_
        ·
          refine C.block <| C.seq <| C.region <| E.mv rfl rfl <| E.mv rfl rfl <| ?_
          refine E.get (k := i) rfl rfl (hM.arg0 hr') rfl (by omega) Tryd.underlying29 (by kernel_rfl) Tryd.underlying3 rfl rfl rfl ?_
          rw [nz_get hi']
          refine E.bin rfl rfl rfl rfl <| E.nil <| X.next <| ?_
          refine C.cond' rfl (fun hC3 => ?_) (fun hC3 => ?_)
          ·
            refine C.region <| E.mv rfl rfl <| E.mv rfl rfl <| E.mv rfl rfl <| ?_
            refine E.get (k := i) rfl rfl (hM.arg0 hr') rfl (by omega) Tryd.underlying29 (by kernel_rfl) Tryd.underlying3 rfl rfl rfl ?_
            rw [nz_get hi']
            refine E.mv rfl rfl <| ?_
            refine E.mk1M (enc := i64) _ hM rfl Tryd.underlying29 elem_Tint rfl rfl ?_
            intro v44 w3 hM
            try dsimp only [List.nil_append, List.cons_append, List.set_cons_zero, List.set_cons_succ, repl] at hM
            obtain ⟨h44, hh⟩ := own_hd (hM.own 2 rfl)
            subst hh
            obtain ⟨x, hx⟩ : ∃ x : Ir, x = (h44, Tr.leaf fs[i] i) := ⟨_, rfl⟩
            have hM := hM.lpsAdd (x := x) 1 2 (by decide) rfl (by rw [hx]; rfl)
            try dsimp only [List.nil_append, List.cons_append, List.set_cons_zero, List.set_cons_succ, repl] at hM
            refine E.buildC (cs := [_, _]) [.int .i64 0, .slice none 0 0] [0, 1] rfl rfl (by kernel_rfl) rfl ?_
            refine E.call rfl rfl (insert_ret v6 ss (h44, Tr.leaf fs[i] i) _ (hM.slF 0 rfl) (by omega)) ?_
            rintro v46 w2 m
            have hM := hM.call m
            rw [← hx] at hM
            try dsimp only [List.nil_append, List.cons_append, List.set_cons_zero, List.set_cons_succ, repl] at hM

            refine E.asg rfl rfl <| E.nil <| X.outN <| X.join3 (ins wr x ss) (N ++ [x]) v46 (Sub.cons rfl <| Sub.nil _) rfl ⟨hM.pick [3, 1] (by decide), by rw [hsn, if_pos (by omega), isort_snoc, ← hss, ins_map wr Tr.wt Prod.snd (fun _ => rfl), hx], fun y hy => ((ins_perm _ _ _).mem_iff.1 hy |> List.mem_cons.1).elim (fun h => by rw [h]; simp) (fun h => List.mem_append_left _ (hsN y h)), by rw [ins_len]; omega⟩
          ·

            refine C.skip <| X.outN <| X.join3 ss N v6 (Sub.cons rfl <| Sub.nil _) rfl ⟨hM, by rw [hsn, if_neg (by omega), List.append_nil, hss], hsN, by omega⟩
        rintro ss N v6 w5 ⟨hM, hss, hsN, hsl⟩
        refine C.region <| E.mv rfl rfl <| ?_
        refine E.add rfl rfl (by omega) rfl ?_

        refine E.asg rfl rfl <| E.nil <| X.again4 (i + 1) ss N v6 (Sub.cons rfl <| Sub.cons rfl <| Sub.nil _) rfl ⟨hM, by omega, hss, hsN, hsl⟩ (by omega)
      ·
        obtain rfl : i = fs.length := by omega
        rw [List.take_length] at hss
        have hn : (isort Tr.wt (sgl fs)).length = ss.length := by rw [← hss, List.length_map]
        have hgd := sgl_gd hbB
        have hp30 : 2 ^ mo ≤ 2 ^ 30 := Nat.pow_le_pow_right (by decide) hmo.2
        refine C.exit <| X.exitT <| X.exitT <| X.outE <| X.next <| C.seq <| C.seq <| C.region <| E.mv rfl rfl <| ?_
        refine E.lenv rfl (RdF.shape (hM.slF 0 rfl)) Tryd.underlying125 rfl ?_
        refine E.mv rfl rfl <| ?_
        refine E.conv rfl Tryd.underlying3 Tryd.underlying67 (IntWalk.u64_in _ (by omega)) rfl ?_
        refine E.shl rfl rfl (by omega) (shl_nat (a := 1) (k := mo) (c := 2 ^ mo) (by omega) (Nat.one_mul _) (by omega)) rfl ?_
        refine E.bin rfl rfl rfl rfl <| E.nil <| X.next <| ?_
        refine C.cond' rfl (fun hC4 => ?_) (fun hC4 => ?_)
        ·
          have hlv := lnv_cap hl4 hok hmo (by rw [hSg, hn]; exact Int.ofNat_lt.1 hC4)
          refine C.seq <| C.region <| E.asg rfl rfl <| E.asg rfl rfl <| E.nil <| X.next <| C.ret <| X.retT <| ret2 rfl rfl rfl ?_
          exact ⟨_, by rw [hlv], by rw [hlv]; exact (hM.nil i64 3).pick [2] (by decide)⟩
        ·
          have hcap : ¬ 2 ^ mo < ss.length := fun h => hC4 (Int.ofNat_lt.2 h)
          have hlv := lnv_ok hl4 hok hmo (by rw [hSg, hn]; exact hcap)
          rw [hSg, ← hlz] at hlv
          refine C.skip <| X.next <| C.seq <| C.region <| E.mv rfl rfl <| ?_
          refine E.lenv rfl (Rd.shape (hM.arg0 hr')) Tryd.underlying29 rfl ?_
          rw [nz_len]
          refine E.makeM (by_ := 8) (enc := i64) 0 hM rfl Tryd.underlying29 (by kernel_rfl) rfl (by first | omega | (simp only [List.length_replicate, List.length_append, List.length_set, List.length_cons, List.length_nil, List.length_map, List.length_range, List.length_take, List.length_drop, List.length_zipWith] at *; omega)) (by first | omega | (simp only [List.length_replicate, List.length_append, List.length_set, List.length_cons, List.length_nil, List.length_map, List.length_range, List.length_take, List.length_drop, List.length_zipWith] at *; omega)) rfl ?_
          intro v55 w6 hM
          try dsimp only [List.nil_append, List.cons_append, List.set_cons_zero, List.set_cons_succ, repl] at hM
          refine E.asg rfl rfl <| E.nil <| X.next <| ?_

          refine C.cut0 [(1, _), (6, _), (8, _)] rfl [] (fun w' => M w (Nn) w' [Rg.slF ec 2 128 v6 ss, Rg.lps N, Rg.sl i64 3 v55 (ini (isort Tr.wt (sgl fs)) fs.length)]) ?_ ?_
          ·
            refine C.seq <| C.region <| E.mv rfl rfl <| ?_
            refine E.lenv rfl (RdF.shape (hM.slF 0 rfl)) Tryd.underlying125 rfl ?_
            refine E.bin rfl rfl rfl rfl <| E.nil <| X.next <| ?_
            refine C.cond' rfl (fun hC5 => ?_) (fun hC5 => ?_)
            ·
              obtain ⟨x0, hx0⟩ : ∃ x0, ss = [x0] := by
                match ss, hC5 with
                | [x0], _ => exact ⟨x0, rfl⟩
                | [], h => simp at h
                | _ :: _ :: _, h => simp at h; omega
              subst hx0
              obtain ⟨h0, t0⟩ := x0
              obtain ⟨f0, s0, rfl, hf1, hf2, hs0⟩ := sgl_spec hbB t0 ((isort_mem Tr.wt _ _).1 (by rw [← hss]; simp))
              have hr0 : RdL i64 _ (slv h0) [((s0 : Nat) : Int)] := (hM.lps 1 rfl) (h0, Tr.leaf f0 s0) (hsN _ (by simp))
              refine C.region <| E.mv rfl rfl <| E.mv rfl rfl <| ?_
              refine E.idxF (k := 0) rfl rfl (hM.slF 0 rfl) rfl (by simp) (by decide) Tryd.underlying125 (by kernel_rfl) rfl ?_
              refine E.fld (o := 1) (sz := 0) rfl Tryd.underlying128 rfl rfl (by kernel_rfl) rfl ?_
              refine E.load rfl Tryd.underlying29 rfl ((hM.slF 0 rfl).atA (k := 0) (o := 1) rfl (by simp) rfl) rfl ?_
              refine E.get (k := 0) rfl rfl hr0 rfl (by simp) Tryd.underlying29 (by kernel_rfl) Tryd.underlying3 rfl rfl rfl ?_
              refine E.idx1 (k := s0) rfl rfl (hM.sl 2 rfl) rfl (by simp; exact hs0) Tryd.underlying29 (by kernel_rfl) rfl ?_
              refine E.storeL (j := s0) 2 1 hM rfl rfl rfl (by kernel_rfl) rfl rfl (by simp; exact hs0) ?_
              intro w7 hM
              try dsimp only [List.nil_append, List.cons_append, List.set_cons_zero, List.set_cons_succ, repl] at hM

              refine E.nil <| X.join0  (Sub.nil _) rfl (hM.to (by rw [← hss]; exact congrArg (fun L => [_, _, Rg.sl i64 3 v55 L]) (ini_one (b := 0) (f := f0) hs0)))
            ·

              refine C.skip <| X.join0  (Sub.nil _) rfl (hM.to (by rw [ini, if_neg (by omega)]; rfl))
          rintro  w8 hM
          refine C.seq <| C.region <| E.mv rfl rfl <| E.asg rfl rfl <| E.nil <| X.next <| C.seq <| C.seq <| C.region <| E.asg rfl rfl <| E.nil <| X.next <| C.block <| ?_
          have hM := hM.new (Ext.refl _) (r := Rg.emp) trivial (fun _ h => h.elim)
          try dsimp only [List.nil_append, List.cons_append, List.set_cons_zero, List.set_cons_succ, repl] at hM
          have hS1 : ∀ t ∈ (isort Tr.wt (sgl fs)), t.wt ≤ 1099511627776 := fun t h => (hgd t h).2
          have hS2 : ∀ t ∈ (isort Tr.wt (sgl fs)), Gd fs.length t := fun t h => (hgd t h).1
          have hts : ts (isort Tr.wt (sgl fs)) ≤ 4096 := by
            rw [ts_leaf (fun t ht => by obtain ⟨f, s, h, _⟩ := sgl_spec hbB t ((isort_mem _ _ _).1 ht); exact ⟨f, s, h⟩)]; omega

          refine C.loop5 [(1, _), (6, _), (8, _)] rfl (fun (k : Nat) (N : (List Ir)) (zs1 : (List Ir)) (v9 : Value) (rx : Rg) => [(9, v9), (10, i64 ((k + 1 : Nat) : Int))]) (fun (k : Nat) (N : (List Ir)) (zs1 : (List Ir)) (v9 : Value) (rx : Rg) w' => M w (Nn) w' [Rg.slF ec 2 128 v6 ss, Rg.lps N, Rg.sl i64 3 v55 (ini (isort Tr.wt (sgl fs)) fs.length), rx] ∧ k ≤ mo - 1 ∧ zs1.map Prod.snd = lvl (isort Tr.wt (sgl fs)) k ∧ (∀ x ∈ ss, x ∈ N) ∧ (∀ x ∈ zs1, x ∈ N) ∧ ((v9 = v6 ∧ zs1 = ss) ∨ rx = Rg.slF ec 2 128 v9 zs1)) (fun (k : Nat) (N : (List Ir)) (zs1 : (List Ir)) (v9 : Value) (rx : Rg) => mo - 1 - k) 0 N ss v6 Rg.emp ?_ ?_ ?_
          · exact Sub.cons rfl <| Sub.cons rfl <| Sub.nil _
          · exact ⟨hM, Nat.zero_le _, hss, hsN, hsN, .inl ⟨rfl, rfl⟩⟩
          rintro k N zs1 v9 rx w9 ⟨hM, hk, hzs, hsN, hzN, hdj⟩
          refine C.seq <| C.seq <| C.region <| E.mv rfl rfl <| E.mv rfl rfl <| E.bin rfl rfl rfl rfl <| E.nil <| X.next <| ?_
          refine C.cond' rfl (fun hC6 => ?_) (fun hC6 => ?_)
          ·
            have hll := lvl_two (isort Tr.wt (sgl fs)) k
            have hzl : zs1.length = (lvl (isort Tr.wt (sgl fs)) k).length := by rw [← hzs, List.length_map]
            have htw := lvl_wt (k := k) hS1 (by omega) (by omega)
            have hlt := lvl_ts (isort Tr.wt (sgl fs)) k
            have hlt2 := Nat.mul_le_mul (show k + 1 ≤ 30 by omega) hts
            have hzm : ∀ x ∈ zs1, x.2 ∈ lvl (isort Tr.wt (sgl fs)) k := fun x hx => by rw [← hzs]; exact List.mem_map_of_mem hx
            have hwz : ∀ x ∈ zs1, wr x ≤ 2305843009213693952 := fun x hx => by
              have := tw_mem (hzm x hx)
              show x.2.wt ≤ _; omega
            have hsz : ∀ x ∈ zs1, x.2.sy.length ≤ 1099511627776 := fun x hx => by
              have := ts_mem (hzm x hx)
              omega
            refine C.skip <| X.next <| C.seq <| C.block <| C.region <| E.mv rfl rfl <| E.mv rfl rfl <| ?_
            refine E.call rfl rfl (merged_ret v6 v9 ss zs1 _ (hM.slF 0 rfl) (lrdR hM hdj) (fun y hy => (hM.lps 1 rfl) y (hzN y hy)) (by omega) hwz hsz) ?_
            rintro v75 w3 ⟨ps, hps, m⟩
            have hM := hM.call m
            try dsimp only [List.nil_append, List.cons_append, List.set_cons_zero, List.set_cons_succ, repl] at hM
            have hM := hM.lpsJoin 1 5 (by decide) rfl rfl
            try dsimp only [List.nil_append, List.cons_append, List.set_cons_zero, List.set_cons_succ, repl] at hM
            try dsimp only [List.nil_append, List.cons_append, List.set_cons_zero, List.set_cons_succ, repl] at hM
            refine E.asg rfl rfl <| E.nil <| X.outN <| X.next <| C.region <| E.mv rfl rfl <| ?_
            refine E.addN (a := k + 1) (b := 1) rfl rfl (by omega) rfl ?_

            refine E.asg rfl rfl <| E.nil <| X.again5 (k + 1) (N ++ ps) (mrg wr ss ps) v75 (Rg.slF ec 2 128 v75 (mrg wr ss ps)) (Sub.cons rfl <| Sub.cons rfl <| Sub.nil _) rfl ⟨hM.pick [0, 1, 2, 4] (by decide), by omega, by rw [mrg_map wr Tr.wt Prod.snd (fun _ => rfl), hss, hps, hzs]; rfl, fun x h => List.mem_append_left _ (hsN x h), fun x h => ((mrg_mem _ _ _ _).1 h).elim (fun h => List.mem_append_left _ (hsN x h)) (fun h => List.mem_append_right _ h), .inr rfl⟩ (by omega)
          ·
            obtain rfl : k = mo - 1 := by omega
            have hzl : zs1.length = (lvl (isort Tr.wt (sgl fs)) (mo - 1)).length := by rw [← hzs, List.length_map]
            have htw := lvl_wt (k := mo - 1) hS1 (by omega) (by omega)
            have hini : ∀ z ∈ (ini (isort Tr.wt (sgl fs)) fs.length), 0 ≤ z ∧ z ≤ 1 := fun z hz => by
              unfold ini at hz
              split at hz
              · rename_i h1
                have h2 := bump_bd (m := 1) _ _ (fun y hy => by
                  rw [zeros] at hy
                  have := List.eq_of_mem_replicate hy
                  have h3 : ((isort Tr.wt (sgl fs)).flatMap Tr.sy).length = 1 := by
                    have := ts_leaf (l := (isort Tr.wt (sgl fs))) (fun t ht => by obtain ⟨f, s, h, _⟩ := sgl_spec hbB t ((isort_mem _ _ _).1 ht); exact ⟨f, s, h⟩)
                    rw [List.length_flatMap]; exact this.trans h1
                  rw [h3]; omega) z hz
                exact h2
              · rw [zeros] at hz; have := List.eq_of_mem_replicate hz; omega
            refine C.exit <| X.exitT <| X.exitT <| X.outE <| X.next <| C.seq <| C.seq <| C.region <| E.asg rfl rfl <| E.nil <| X.next <| C.block <| ?_

            refine C.loop1 [(6, _), (8, _), (9, _)] rfl (fun (j : Nat) => [(11, i64 j)]) (fun (j : Nat) w' => M w (Nn) w' [Rg.slF ec 2 128 v6 ss, Rg.lps N, Rg.sl i64 3 v55 (bump (ini (isort Tr.wt (sgl fs)) fs.length) (((lvl (isort Tr.wt (sgl fs)) (mo - 1)).take j).flatMap Tr.sy)), rx] ∧ j ≤ 2 * ss.length - 2) (fun (j : Nat) => 2 * ss.length - 2 - j) 0 ?_ ?_ ?_
            · exact Sub.cons rfl <| Sub.nil _
            · exact ⟨hM, Nat.zero_le _⟩
            rintro j w11 ⟨hM, hj⟩
            refine C.seq <| C.seq <| C.region <| E.mv rfl rfl <| E.mv rfl rfl <| ?_
            refine E.lenv rfl (RdF.shape (hM.slF 0 rfl)) Tryd.underlying125 rfl ?_
            refine E.mul rfl rfl (by omega) rfl ?_
            refine E.sub' rfl rfl (by omega) rfl ?_
            refine E.bin rfl rfl rfl rfl <| E.nil <| X.next <| ?_
            refine C.cond' rfl (fun hC7 => ?_) (fun hC7 => ?_)
            ·
              have hlong := lvl_long (S := (isort Tr.wt (sgl fs))) (m := mo) (by omega) hmo.1 (by rw [hn]; omega)
              have hjz : j < zs1.length := by omega
              have hj' : j < (lvl (isort Tr.wt (sgl fs)) (mo - 1)).length := by omega
              have hel : zs1[j].2 = (lvl (isort Tr.wt (sgl fs)) (mo - 1))[j] := by
                have h1 : (zs1.map Prod.snd)[j]? = (lvl (isort Tr.wt (sgl fs)) (mo - 1))[j]? := by rw [hzs]
                rw [List.getElem?_map, List.getElem?_eq_getElem hjz, List.getElem?_eq_getElem hj'] at h1
                exact Option.some.inj h1
              have hzm := hzN _ (List.getElem_mem hjz)
              have hgj := lvl_gd hS2 _ _ (List.getElem_mem hj')
              rw [← hel] at hgj
              have hg1 := hgj.sy
              have hft := flat_len (l := (lvl (isort Tr.wt (sgl fs)) (mo - 1)).take j) (n := fs.length) (fun t ht => lvl_gd hS2 _ t (List.mem_of_mem_take ht))
              have ht1 := tw_take (lvl (isort Tr.wt (sgl fs)) (mo - 1)) j
              have hw1 := tw_mem (List.getElem_mem hj')
              rw [← hel] at hw1
              have hlB : ∀ A B : List Nat, (bump (bump (ini (isort Tr.wt (sgl fs)) fs.length) A) B).length = fs.length := fun A B => by
                rw [bump_len, bump_len, ini]; split
                · rw [bump_len, zeros, List.length_replicate]
                · rw [zeros, List.length_replicate]
              refine C.skip <| X.next <| C.seq <| C.block <| C.seq <| C.region <| E.asg rfl rfl <| E.nil <| X.next <| C.block <| ?_

              refine C.loop1 [(6, _), (8, _), (9, _), (11, _)] rfl (fun (q : Nat) => [(12, i64 q)]) (fun (q : Nat) w' => M w (Nn) w' [Rg.slF ec 2 128 v6 ss, Rg.lps N, Rg.sl i64 3 v55 (bump (bump (ini (isort Tr.wt (sgl fs)) fs.length) (((lvl (isort Tr.wt (sgl fs)) (mo - 1)).take j).flatMap Tr.sy)) (zs1[j].2.sy.take q)), rx] ∧ q ≤ zs1[j].2.sy.length) (fun (q : Nat) => zs1[j].2.sy.length - q) 0 ?_ ?_ ?_
              · exact Sub.cons rfl <| Sub.nil _
              · exact ⟨hM, Nat.zero_le _⟩
              rintro q w12 ⟨hM, hq⟩
              refine C.seq <| C.seq <| C.region <| E.mv rfl rfl <| E.mv rfl rfl <| E.mv rfl rfl <| ?_
              refine E.idxF (k := j) rfl rfl (lrdR hM hdj) rfl hjz (by decide) Tryd.underlying125 (by kernel_rfl) rfl ?_
              refine E.fld (o := 1) (sz := 0) rfl Tryd.underlying128 rfl rfl (by kernel_rfl) rfl ?_
              refine E.load rfl Tryd.underlying29 rfl ((lrdR hM hdj).atA (k := j) (o := 1) rfl hjz rfl) rfl ?_
              refine E.lenv rfl (Rd.shape ((hM.lps 1 rfl) zs1[j] hzm)) Tryd.underlying29 rfl ?_
              rw [nz_len]
              refine E.bin rfl rfl rfl rfl <| E.nil <| X.next <| ?_
              refine C.cond' rfl (fun hC8 => ?_) (fun hC8 => ?_)
              ·
                have hq' : q < zs1[j].2.sy.length := by omega
                have hsq : zs1[j].2.sy[q] < (bump (bump (ini (isort Tr.wt (sgl fs)) fs.length) (((lvl (isort Tr.wt (sgl fs)) (mo - 1)).take j).flatMap Tr.sy)) (zs1[j].2.sy.take q)).length := by rw [hlB]; exact hg1.1 _ (List.getElem_mem hq')
                have hbd := bump_bd (m := 1000000000000000000) (zs1[j].2.sy.take q) (bump (ini (isort Tr.wt (sgl fs)) fs.length) (((lvl (isort Tr.wt (sgl fs)) (mo - 1)).take j).flatMap Tr.sy)) (fun y hy => by
                  have h1 := bump_bd (m := 500000000000000000) _ _ (fun u hu => by have := hini u hu; omega) y hy
                  rw [List.length_take]; omega) _ (List.getElem_mem hsq)
                refine C.skip <| X.next <| C.seq <| C.block <| C.drawnT 22 (by kernel_rfl) (by kernel_rfl) fun wh13 hwh13 => ?_
                have hM := hM.ext hwh13
                refine S.mv rfl rfl <| S.mv rfl rfl <| S.mv rfl rfl <| ?_
                refine S.idxF (k := j) rfl rfl (lrdR hM hdj) rfl hjz (by decide) Tryd.underlying125 (by kernel_rfl) rfl ?_
                refine S.fld (o := 1) (sz := 0) rfl Tryd.underlying128 rfl rfl (by kernel_rfl) rfl ?_
                refine S.load rfl Tryd.underlying29 rfl ((lrdR hM hdj).atA (k := j) (o := 1) rfl hjz rfl) rfl ?_
                refine S.mv rfl rfl <| ?_
                refine S.idx1 (k := q) rfl rfl ((hM.lps 1 rfl) zs1[j] hzm) rfl (by rw [nz_len]; exact hq') Tryd.underlying29 (by kernel_rfl) rfl ?_
                refine S.load rfl Tryd.underlying3 rfl (((hM.lps 1 rfl) zs1[j] hzm).cell (by rw [nz_len]; exact hq')) rfl ?_
                rw [nz_get hq']
                refine S.mv rfl rfl <| S.mv rfl rfl <| S.mv rfl rfl <| ?_
                refine S.idxF (k := j) rfl rfl (lrdR hM hdj) rfl hjz (by decide) Tryd.underlying125 (by kernel_rfl) rfl ?_
                refine S.fld (o := 1) (sz := 0) rfl Tryd.underlying128 rfl rfl (by kernel_rfl) rfl ?_
                refine S.load rfl Tryd.underlying29 rfl ((lrdR hM hdj).atA (k := j) (o := 1) rfl hjz rfl) rfl ?_
                refine S.mv rfl rfl <| ?_
                refine S.idx1 (k := q) rfl rfl ((hM.lps 1 rfl) zs1[j] hzm) rfl (by rw [nz_len]; exact hq') Tryd.underlying29 (by kernel_rfl) rfl ?_
                refine S.load rfl Tryd.underlying3 rfl (((hM.lps 1 rfl) zs1[j] hzm).cell (by rw [nz_len]; exact hq')) rfl ?_
                rw [nz_get hq']
                refine S.idx1 (k := zs1[j].2.sy[q]) rfl rfl (hM.sl 2 rfl) rfl hsq Tryd.underlying29 (by kernel_rfl) rfl ?_
                refine S.load rfl Tryd.underlying3 rfl ((hM.sl 2 rfl).cell hsq) rfl ?_
                refine S.add rfl rfl (by omega) rfl ?_
                refine S.idx1 (k := zs1[j].2.sy[q]) rfl rfl (hM.sl 2 rfl) rfl hsq Tryd.underlying29 (by kernel_rfl) rfl ?_
                refine S.nil ?_
                refine E.storeL (j := zs1[j].2.sy[q]) 2 ((bump (bump (ini (isort Tr.wt (sgl fs)) fs.length) (((lvl (isort Tr.wt (sgl fs)) (mo - 1)).take j).flatMap Tr.sy)) (zs1[j].2.sy.take q))[zs1[j].2.sy[q]] + 1) hM rfl rfl rfl (by kernel_rfl) rfl rfl hsq ?_
                intro w14 hM
                try dsimp only [List.nil_append, List.cons_append, List.set_cons_zero, List.set_cons_succ, repl] at hM
                rw [bump_one hq' hsq] at hM
                refine E.nil <| X.outN <| X.next <| C.region <| E.mv rfl rfl <| ?_
                refine E.add rfl rfl (by omega) rfl ?_

                refine E.asg rfl rfl <| E.nil <| X.again1 (q + 1) (Sub.cons rfl <| Sub.nil _) rfl ⟨hM, by omega⟩ (by omega)
              ·
                obtain rfl : q = zs1[j].2.sy.length := by omega
                rw [List.take_length, ← bump_app, hel, ← flat_snoc hj'] at hM
                refine C.exit <| X.exitT <| X.exitT <| X.outE <| X.outN <| X.next <| C.region <| E.mv rfl rfl <| ?_
                refine E.add rfl rfl (by omega) rfl ?_

                refine E.asg rfl rfl <| E.nil <| X.again1 (j + 1) (Sub.cons rfl <| Sub.nil _) rfl ⟨hM, by omega⟩ (by omega)
            ·
              obtain rfl : j = 2 * ss.length - 2 := by omega
              refine C.exit <| X.exitT <| X.exitT <| X.outE <| X.next <| C.seq <| C.region <| E.mv rfl rfl <| E.asg rfl rfl <| E.asg rfl rfl <| E.nil <| X.next <| C.ret <| ret2 rfl rfl rfl ?_
              exact ⟨_, by rw [hlv], by rw [hlv, lens_eq, hn]; exact hM.pick [2] (by decide)⟩

end Go.Proofs.YtcmgbjmcklfkcaaDoor
