/- chapter 33: the examples. -/
import Derived.Test.YtdcgmkoonanpgaaPf13
import Derived.Test.YtdcgmkoonanpgaaPf8
namespace Go.Proofs.Ytdcgmkoonanpgaa
set_option linter.unusedSimpArgs false
set_option linter.unusedVariables false
open Go.RowKit Sym

theorem ex_l1 : lnv [1, 1, 2, 4] 3 = ([3, 3, 2, 1], 0) := by
  have e : Sg [1, 1, 2, 4] = [.leaf 1 0, .leaf 1 1, .leaf 2 2, .leaf 4 3] := rfl
  have h : lnv [1, 1, 2, 4] ((3 : Nat) : Int) = _ := lnv_ok (by decide) (by decide) (by decide) (by rw [e]; decide)
  refine Eq.trans h ?_
  rw [e]
  simp [lens, lvl, pkg, mrg, Tr.wt, Tr.sy, bump, zeros]
theorem ex_l2 : lnv [1, 1, 2, 4] 2 = ([2, 2, 2, 2], 0) := by
  have e : Sg [1, 1, 2, 4] = [.leaf 1 0, .leaf 1 1, .leaf 2 2, .leaf 4 3] := rfl
  have h : lnv [1, 1, 2, 4] ((2 : Nat) : Int) = _ := lnv_ok (by decide) (by decide) (by decide) (by rw [e]; decide)
  refine Eq.trans h ?_
  rw [e]
  simp [lens, lvl, pkg, mrg, Tr.wt, Tr.sy, bump, zeros]
theorem ex_few : (Sg [1, 1, 2, 4]).length ≤ 19 := by decide
theorem ex_ck : ckv [2, 1, 3, 3] = 0 := by decide
theorem ex_od : Pf.od [2, 1, 3, 3] = [1, 0, 2, 3] := by rw [Pf.od_eq]; decide
theorem ex_c0 : Pf.code [2, 1, 3, 3] 0 = 2 := by rw [Pf.code, ex_od]; decide
theorem ex_c1 : Pf.code [2, 1, 3, 3] 1 = 0 := by rw [Pf.code, ex_od]; decide
theorem ex_c2 : Pf.code [2, 1, 3, 3] 2 = 6 := by rw [Pf.code, ex_od]; decide
theorem ex_c3 : Pf.code [2, 1, 3, 3] 3 = 7 := by rw [Pf.code, ex_od]; decide
theorem ex_c : cdv [2, 1, 3, 3] = [2, 0, 6, 7] := by
  rw [cdv, if_pos ex_ck]
  show [((Pf.code [2, 1, 3, 3] 0 : Nat) : Int), ((Pf.code [2, 1, 3, 3] 1 : Nat) : Int), ((Pf.code [2, 1, 3, 3] 2 : Nat) : Int), ((Pf.code [2, 1, 3, 3] 3 : Nat) : Int)] = _
  rw [ex_c0, ex_c1, ex_c2, ex_c3]; rfl
theorem ex_n : csv [1, 1, 2, 4] [3, 3, 2, 1] = (14, 0) := by decide
theorem ex_h : chv [3, 3, 2, 1] = 0 := by decide
theorem ex_e : env [2, 1, 3, 3] [1, 0, 3] = ([false, true, false, true, true, true], 0) := by
  rw [env_ok ex_ck]
  show ecv [2, 1, 3, 3] [] [1, 0, 3] = _
  rw [ecv, if_neg (by decide), if_neg (by decide), if_neg (by decide)]
  rw [ecv, if_neg (by decide), if_neg (by decide), if_neg (by simp [btv_len])]
  rw [ecv, if_neg (by decide), if_neg (by decide), if_neg (by simp [btv_len])]
  rw [ecv]
  show ([] ++ btv (Pf.code [2, 1, 3, 3] 1) 1 ++ btv (Pf.code [2, 1, 3, 3] 0) 2 ++ btv (Pf.code [2, 1, 3, 3] 3) 3, (0 : Int)) = _
  rw [ex_c1, ex_c0, ex_c3]; decide
theorem ex_f0 : Pf.fnd [2, 1, 3, 3] 0 0 = none := Pf.fnd_none.2 fun i _ h => by omega
theorem ex_f1 : Pf.fnd [2, 1, 3, 3] 1 1 = none := Pf.fnd_none.2 fun i hi h => by
  obtain ⟨_, h1, h2⟩ := h
  match i, hi with
  | 0, _ => exact absurd h1 (by decide)
  | 1, _ => rw [ex_c1] at h2; exact absurd h2 (by decide)
  | 2, _ => exact absurd h1 (by decide)
  | 3, _ => exact absurd h1 (by decide)
theorem ex_f2 : Pf.fnd [2, 1, 3, 3] 2 2 = some 0 := Pf.fnd_some (by decide) (by decide) (by decide) (by decide) ex_c0
theorem ex_b0 : begB [2, 1, 3, 3] 0 0 = true := begB_t.2 ⟨1, by rw [ex_od]; decide, by decide, by rw [ex_c1]; decide⟩
theorem ex_b1 : begB [2, 1, 3, 3] 1 1 = true := begB_t.2 ⟨0, by rw [ex_od]; decide, by decide, by rw [ex_c0]; decide⟩
theorem ex_d : dev [2, 1, 3, 3] [false, true, false, true, true, true] 1 = (0, 2, 0) := by
  rw [dev_go ex_ck (by decide)]
  show dgo [2, 1, 3, 3] [false, true, false, true, true, true] 1 31 0 = _
  rw [dgo_on (by exact ex_f0) (by exact ex_b0) (by decide), dgo_on (by exact ex_f1) (by exact ex_b1) (by decide), dgo_found (by exact ex_f2)]
set_option maxHeartbeats 1000000 in
set_option maxRecDepth 4000 in
theorem alive_ret (w : World) :
    Ret Try.prog 32 #[] w fun v w' => v = .bool true ∧ Ext w w' := by
  have hM := M.start w
  refine enter Try.func32 rfl (by kernel_rfl) Try.ntmps32 rfl ?_
  refine C.seq <| C.region <| E.asg rfl rfl <| E.nil <| X.next <| C.seq <| C.region <| ?_
  refine E.mkM (enc := i64) (e := 3) [1, 1, 2, 4] hM rfl (fun _ => by kernel_rfl) rfl rfl rfl ?_
  intro v15 w0 hM
  try dsimp only [List.nil_append, List.cons_append, List.set_cons_zero, List.set_cons_succ, repl] at hM
  refine E.call rfl rfl (Lengths_few v15 _ 3 _ (hM.sl 0 rfl) ex_few) ?_
  rintro _ w1 ⟨v16, rfl, m⟩
  rw [ex_l1] at m ⊢
  have hM := hM.call m
  try dsimp only [List.nil_append, List.cons_append, List.set_cons_zero, List.set_cons_succ, repl] at hM
  refine E.mv rfl rfl <| E.ext rfl rfl rfl <| E.ext rfl rfl rfl <| E.asg rfl rfl <| E.asg rfl rfl <| E.nil <| X.next <| C.seq <| C.region <| ?_
  refine E.mkM (enc := i64) (e := 3) [1, 1, 2, 4] hM rfl (fun _ => by kernel_rfl) rfl rfl rfl ?_
  intro v20 w2 hM
  try dsimp only [List.nil_append, List.cons_append, List.set_cons_zero, List.set_cons_succ, repl] at hM
  refine E.call rfl rfl (Lengths_few v20 _ 2 _ (hM.sl 2 rfl) ex_few) ?_
  rintro _ w2 ⟨v21, rfl, m⟩
  rw [ex_l2] at m ⊢
  have hM := hM.call m
  try dsimp only [List.nil_append, List.cons_append, List.set_cons_zero, List.set_cons_succ, repl] at hM
  refine E.mv rfl rfl <| E.ext rfl rfl rfl <| E.ext rfl rfl rfl <| E.asg rfl rfl <| E.asg rfl rfl <| E.nil <| X.next <| C.seq <| C.region <| ?_
  refine E.mkM (enc := i64) (e := 3) [2, 1, 3, 3] hM rfl (fun _ => by kernel_rfl) rfl rfl rfl ?_
  intro v25 w4 hM
  try dsimp only [List.nil_append, List.cons_append, List.set_cons_zero, List.set_cons_succ, repl] at hM
  refine E.call rfl rfl (Codes_ret v25 _ _ (hM.sl 4 rfl)) ?_
  rintro _ w3 ⟨v26, rfl, m⟩
  rw [ex_c] at m
  rw [ex_ck]
  have hM := hM.call m
  try dsimp only [List.nil_append, List.cons_append, List.set_cons_zero, List.set_cons_succ, repl] at hM
  refine E.mv rfl rfl <| E.ext rfl rfl rfl <| E.ext rfl rfl rfl <| E.asg rfl rfl <| E.asg rfl rfl <| E.nil <| X.next <| C.seq <| C.region <| ?_
  refine E.mkM (enc := i64) (e := 3) [1, 1, 2, 4] hM rfl (fun _ => by kernel_rfl) rfl rfl rfl ?_
  intro v30 w6 hM
  try dsimp only [List.nil_append, List.cons_append, List.set_cons_zero, List.set_cons_succ, repl] at hM
  refine E.mv rfl rfl <| ?_
  refine E.call rfl rfl (Cost_ret v30 v16 _ _ _ (hM.sl 6 rfl) (hM.sl 1 rfl)) ?_
  rintro _ w4 ⟨rfl, x4⟩
  rw [ex_n]
  have hM := hM.ext x4
  try dsimp only [List.nil_append, List.cons_append, List.set_cons_zero, List.set_cons_succ, repl] at hM
  refine E.mv rfl rfl <| E.ext rfl rfl rfl <| E.ext rfl rfl rfl <| E.asg rfl rfl <| E.asg rfl rfl <| E.nil <| X.next <| C.seq <| C.region <| ?_
  refine E.mkM (enc := i64) (e := 3) [2, 1, 3, 3] hM rfl (fun _ => by kernel_rfl) rfl rfl rfl ?_
  intro v36 w8 hM
  try dsimp only [List.nil_append, List.cons_append, List.set_cons_zero, List.set_cons_succ, repl] at hM
  refine E.mkM (enc := i64) (e := 3) [1, 0, 3] hM rfl (fun _ => by kernel_rfl) rfl rfl rfl ?_
  intro v37 w9 hM
  try dsimp only [List.nil_append, List.cons_append, List.set_cons_zero, List.set_cons_succ, repl] at hM
  refine E.call rfl rfl (Encode_ret v36 v37 _ _ _ (hM.sl 7 rfl) (hM.sl 8 rfl)) ?_
  rintro _ w5 ⟨v38, rfl, m⟩
  rw [ex_e] at m ⊢
  have hM := hM.call m
  try dsimp only [List.nil_append, List.cons_append, List.set_cons_zero, List.set_cons_succ, repl] at hM
  refine E.mv rfl rfl <| E.ext rfl rfl rfl <| E.ext rfl rfl rfl <| E.asg rfl rfl <| E.asg rfl rfl <| E.nil <| X.next <| C.seq <| C.region <| ?_
  refine E.mkM (enc := i64) (e := 3) [2, 1, 3, 3] hM rfl (fun _ => by kernel_rfl) rfl rfl rfl ?_
  intro v42 w11 hM
  try dsimp only [List.nil_append, List.cons_append, List.set_cons_zero, List.set_cons_succ, repl] at hM
  refine E.mv rfl rfl <| ?_
  refine E.call rfl rfl (Decode_ret v42 v38 _ _ 1 _ (hM.sl 10 rfl) (hM.sl 9 rfl)) ?_
  rintro _ w6 ⟨rfl, x6⟩
  rw [ex_d]
  have hM := hM.ext x6
  try dsimp only [List.nil_append, List.cons_append, List.set_cons_zero, List.set_cons_succ, repl] at hM
  refine E.mv rfl rfl <| E.ext rfl rfl rfl <| E.ext rfl rfl rfl <| E.ext rfl rfl rfl <| E.asg rfl rfl <| E.asg rfl rfl <| E.asg rfl rfl <| E.nil <| X.next <| C.seq <| ?_

  refine C.chainE [(1, _), (3, _), (5, _), (7, _), (9, _), (11, _), (12, _)] rfl [(69, .bool false)] ?_ ?_
  ·
    refine C.region <| E.mv rfl rfl <| E.bin rfl rfl rfl rfl <| E.mv rfl rfl <| ?_
    refine E.split 50 rfl (fun g50 => ?_) (fun g50 => ?_)
    ·
      try simp only [decide_eq_true_eq, decide_eq_false_iff_not, ne_eq, Decidable.not_not, Bool.not_eq_true', Bool.not_eq_false'] at g50
      exact absurd g50 (by decide)
    ·
      try simp only [decide_eq_true_eq, decide_eq_false_iff_not, ne_eq, Decidable.not_not, Bool.not_eq_true', Bool.not_eq_false'] at g50
      refine E.on rfl rfl (E.mv rfl rfl ?_)
      refine E.on rfl rfl (E.bin rfl rfl rfl rfl ?_)
      refine E.pick rfl rfl rfl <| E.mv rfl rfl <| ?_
      refine E.split 54 rfl (fun g54 => ?_) (fun g54 => ?_)
      ·
        try simp only [decide_eq_true_eq, decide_eq_false_iff_not, ne_eq, Decidable.not_not, Bool.not_eq_true', Bool.not_eq_false'] at g54
        exact absurd g54 (by decide)
      ·
        try simp only [decide_eq_true_eq, decide_eq_false_iff_not, ne_eq, Decidable.not_not, Bool.not_eq_true', Bool.not_eq_false'] at g54
        refine E.on rfl rfl (E.mv rfl rfl ?_)
        refine E.on rfl rfl (E.bin rfl rfl rfl rfl ?_)
        refine E.pick rfl rfl rfl <| E.mv rfl rfl <| ?_
        refine E.split 58 rfl (fun g58 => ?_) (fun g58 => ?_)
        ·
          try simp only [decide_eq_true_eq, decide_eq_false_iff_not, ne_eq, Decidable.not_not, Bool.not_eq_true', Bool.not_eq_false'] at g58
          exact absurd g58 (by decide)
        ·
          try simp only [decide_eq_true_eq, decide_eq_false_iff_not, ne_eq, Decidable.not_not, Bool.not_eq_true', Bool.not_eq_false'] at g58
          refine E.on rfl rfl (E.mv rfl rfl ?_)
          refine E.on rfl rfl (E.bin rfl rfl rfl rfl ?_)
          refine E.pick rfl rfl rfl <| E.mv rfl rfl <| ?_
          refine E.split 62 rfl (fun g62 => ?_) (fun g62 => ?_)
          ·
            try simp only [decide_eq_true_eq, decide_eq_false_iff_not, ne_eq, Decidable.not_not, Bool.not_eq_true', Bool.not_eq_false'] at g62
            exact absurd g62 (by decide)
          ·
            try simp only [decide_eq_true_eq, decide_eq_false_iff_not, ne_eq, Decidable.not_not, Bool.not_eq_true', Bool.not_eq_false'] at g62
            refine E.on rfl rfl (E.mv rfl rfl ?_)
            refine E.on rfl rfl (E.bin rfl rfl rfl rfl ?_)
            refine E.pick rfl rfl rfl <| E.mv rfl rfl <| ?_
            refine E.split 66 rfl (fun g66 => ?_) (fun g66 => ?_)
            ·
              try simp only [decide_eq_true_eq, decide_eq_false_iff_not, ne_eq, Decidable.not_not, Bool.not_eq_true', Bool.not_eq_false'] at g66
              exact absurd g66 (by decide)
            ·
              try simp only [decide_eq_true_eq, decide_eq_false_iff_not, ne_eq, Decidable.not_not, Bool.not_eq_true', Bool.not_eq_false'] at g66
              refine E.on rfl rfl (E.mv rfl rfl ?_)
              refine E.on rfl rfl (E.bin rfl rfl rfl rfl ?_)
              refine E.pick rfl rfl rfl <| E.nil <| X.join0 (Sub.cons (look_eq rfl (by rfl)) <| Sub.nil _) rfl rfl
  refine C.cond rfl (fun hC0 => ?_) (fun hC0 => ?_)
  ·
    cases hC0
  ·
    refine C.skip <| X.next <| ?_

    refine C.cut0 [] rfl [(0, .bool true)] (fun w' => M w (Nn) w' []) ?_ ?_
    ·
      refine C.region <| E.mv rfl rfl <| ?_
      refine E.mkM (enc := i64) (e := 3) [3, 3, 2, 1] hM rfl (fun _ => by kernel_rfl) rfl rfl rfl ?_
      intro v71 w13 hM
      try dsimp only [List.nil_append, List.cons_append, List.set_cons_zero, List.set_cons_succ, repl] at hM
      refine E.call rfl rfl (Ints_ret v16 v71 _ _ _ (hM.sl 1 rfl) (hM.sl 11 rfl)) ?_
      rintro _ w7 ⟨rfl, x7⟩
      have hM := hM.ext x7
      try dsimp only [List.nil_append, List.cons_append, List.set_cons_zero, List.set_cons_succ, repl] at hM
      refine E.mv rfl rfl <| ?_
      refine E.split 73 rfl (fun g73 => ?_) (fun g73 => ?_)
      ·
        try simp only [decide_eq_true_eq, decide_eq_false_iff_not, ne_eq, Decidable.not_not, Bool.not_eq_true', Bool.not_eq_false'] at g73
        refine E.on rfl rfl (E.mv rfl rfl ?_)
        refine E.on rfl rfl (E.mkM (enc := i64) (e := 3) [2, 2, 2, 2] hM rfl (fun _ => by kernel_rfl) rfl rfl rfl ?_)
        intro v75 w15 hM
        try dsimp only [List.nil_append, List.cons_append, List.set_cons_zero, List.set_cons_succ, repl] at hM
        refine E.on rfl rfl (E.call rfl rfl (Ints_ret v21 v75 _ _ _ (hM.sl 3 rfl) (hM.sl 12 rfl)) ?_)
        rintro _ w8 ⟨rfl, x8⟩
        have hM := hM.ext x8
        try dsimp only [List.nil_append, List.cons_append, List.set_cons_zero, List.set_cons_succ, repl] at hM
        refine E.pick rfl rfl rfl <| E.mv rfl rfl <| ?_
        refine E.split 78 rfl (fun g78 => ?_) (fun g78 => ?_)
        ·
          try simp only [decide_eq_true_eq, decide_eq_false_iff_not, ne_eq, Decidable.not_not, Bool.not_eq_true', Bool.not_eq_false'] at g78
          refine E.on rfl rfl (E.mv rfl rfl ?_)
          refine E.on rfl rfl (E.mkM (enc := i64) (e := 3) [2, 0, 6, 7] hM rfl (fun _ => by kernel_rfl) rfl rfl rfl ?_)
          intro v80 w17 hM
          try dsimp only [List.nil_append, List.cons_append, List.set_cons_zero, List.set_cons_succ, repl] at hM
          refine E.on rfl rfl (E.call rfl rfl (Ints_ret v26 v80 _ _ _ (hM.sl 5 rfl) (hM.sl 13 rfl)) ?_)
          rintro _ w9 ⟨rfl, x9⟩
          have hM := hM.ext x9
          try dsimp only [List.nil_append, List.cons_append, List.set_cons_zero, List.set_cons_succ, repl] at hM
          refine E.pick rfl rfl rfl <| E.mv rfl rfl <| ?_
          refine E.split 83 rfl (fun g83 => ?_) (fun g83 => ?_)
          ·
            try simp only [decide_eq_true_eq, decide_eq_false_iff_not, ne_eq, Decidable.not_not, Bool.not_eq_true', Bool.not_eq_false'] at g83
            refine E.on rfl rfl (E.mv rfl rfl ?_)
            refine E.on rfl rfl (E.bin rfl rfl rfl rfl ?_)
            refine E.pick rfl rfl rfl <| E.mv rfl rfl <| ?_
            refine E.split 87 rfl (fun g87 => ?_) (fun g87 => ?_)
            ·
              try simp only [decide_eq_true_eq, decide_eq_false_iff_not, ne_eq, Decidable.not_not, Bool.not_eq_true', Bool.not_eq_false'] at g87
              refine E.on rfl rfl (E.mv rfl rfl ?_)
              refine E.on rfl rfl (E.lenv rfl (Rd.shape (hM.sl 9 rfl)) Try.underlying76 rfl ?_)
              refine E.on rfl rfl (E.bin rfl rfl rfl rfl ?_)
              refine E.pick rfl rfl rfl <| E.mv rfl rfl <| ?_
              refine E.split 92 rfl (fun g92 => ?_) (fun g92 => ?_)
              ·
                try simp only [decide_eq_true_eq, decide_eq_false_iff_not, ne_eq, Decidable.not_not, Bool.not_eq_true', Bool.not_eq_false'] at g92
                refine E.on rfl rfl (E.mv rfl rfl ?_)
                refine E.on rfl rfl (E.bin rfl rfl rfl rfl ?_)
                refine E.pick rfl rfl rfl <| E.mv rfl rfl <| ?_
                refine E.split 96 rfl (fun g96 => ?_) (fun g96 => ?_)
                ·
                  try simp only [decide_eq_true_eq, decide_eq_false_iff_not, ne_eq, Decidable.not_not, Bool.not_eq_true', Bool.not_eq_false'] at g96
                  refine E.on rfl rfl (E.mv rfl rfl ?_)
                  refine E.on rfl rfl (E.bin rfl rfl rfl rfl ?_)
                  refine E.pick rfl rfl rfl <| E.mv rfl rfl <| ?_
                  refine E.split 100 rfl (fun g100 => ?_) (fun g100 => ?_)
                  ·
                    try simp only [decide_eq_true_eq, decide_eq_false_iff_not, ne_eq, Decidable.not_not, Bool.not_eq_true', Bool.not_eq_false'] at g100
                    refine E.on rfl rfl (E.mv rfl rfl ?_)
                    refine E.on rfl rfl (E.call rfl rfl (Check_ret v16 _ _ (hM.sl 1 rfl)) ?_)
                    rintro _ w10 ⟨rfl, x10⟩
                    rw [ex_h]
                    have hM := hM.ext x10
                    try dsimp only [List.nil_append, List.cons_append, List.set_cons_zero, List.set_cons_succ, repl] at hM
                    refine E.on rfl rfl (E.bin rfl rfl rfl rfl ?_)

                    refine E.pick rfl rfl rfl <| E.asg rfl rfl <| E.nil <| X.join0  (Sub.cons rfl <| Sub.nil _) rfl (hM.pick [] (by decide))
                  ·
                    try simp only [decide_eq_true_eq, decide_eq_false_iff_not, ne_eq, Decidable.not_not, Bool.not_eq_true', Bool.not_eq_false'] at g100
                    exact absurd g100 (by decide)
                ·
                  try simp only [decide_eq_true_eq, decide_eq_false_iff_not, ne_eq, Decidable.not_not, Bool.not_eq_true', Bool.not_eq_false'] at g96
                  exact absurd g96 (by decide)
              ·
                try simp only [decide_eq_true_eq, decide_eq_false_iff_not, ne_eq, Decidable.not_not, Bool.not_eq_true', Bool.not_eq_false'] at g92
                exact absurd g92 (by decide)
            ·
              try simp only [decide_eq_true_eq, decide_eq_false_iff_not, ne_eq, Decidable.not_not, Bool.not_eq_true', Bool.not_eq_false'] at g87
              exact absurd g87 (by decide)
          ·
            try simp only [decide_eq_true_eq, decide_eq_false_iff_not, ne_eq, Decidable.not_not, Bool.not_eq_true', Bool.not_eq_false'] at g83
            exact absurd g83 (by decide)
        ·
          try simp only [decide_eq_true_eq, decide_eq_false_iff_not, ne_eq, Decidable.not_not, Bool.not_eq_true', Bool.not_eq_false'] at g78
          exact absurd g78 (by decide)
      ·
        try simp only [decide_eq_true_eq, decide_eq_false_iff_not, ne_eq, Decidable.not_not, Bool.not_eq_true', Bool.not_eq_false'] at g73
        exact absurd g73 (by decide)
    rintro  w20 hM
    refine C.ret <| ret1 rfl rfl ?_
    exact ⟨rfl, hM.toExt⟩

end Go.Proofs.Ytdcgmkoonanpgaa
