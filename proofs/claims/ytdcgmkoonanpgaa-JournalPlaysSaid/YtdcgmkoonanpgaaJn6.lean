/- law 53: the examples, and Records. -/
import Derived.Test.YtdcgmkoonanpgaaJn5
namespace Go.Proofs.Ytdcgmkoonanpgaa
set_option linter.unusedSimpArgs false
set_option linter.unusedVariables false
open Go.RowKit Sym Go.Conc.Locks

theorem rec_nil : Jn.rec [] = [0, 0, 0, 0, 33, 68, 223, 28] := by decide +kernel
theorem recs_nil (k : Nat) : Jn.recs k [] = [] := by
  cases k with
  | zero => rfl
  | succ k => rw [Jn.recs, if_pos (by rw [Jn.first, if_pos (by simp)])]
theorem jok_nil : Jok [] := ⟨Nat.zero_le _, Nat.zero_le _, fun p hp => by simp at hp⟩
theorem app_fine {ls ls' : LL} {m : List UInt8} {e : Int} (h : AppSp ls m e ls') (h0 : m.length ≤ 4194304) (h1 : ls.length < 65536) (h2 : Jn.siz ls + m.length + 8 ≤ 16777216) : e = 0 ∧ ls' = ls ++ [m] := by
  rcases h with ⟨h, _⟩ | ⟨_, h, _⟩ | ⟨_, _, _, h3, h4⟩
  · omega
  · omega
  · exact ⟨h3, h4⟩
theorem ex_fit : Jn.fit 18 [[97], [98, 99]] = 1 := by decide
theorem ex_trunc {e : Int} {ls' : LL} (h : TruSp ([] ++ [[97]] ++ [[98, 99]]) 1 e ls') : e = 0 ∧ ls' = [[97]] := by
  have hs : Jn.siz ([] ++ [[97]] ++ [[98, 99]]) = 19 := by decide
  rcases h with ⟨h, _⟩ | ⟨_, _, h3, h4⟩
  · rw [hs] at h; omega
  · refine ⟨h3, ?_⟩
    rw [h4, hs]; show List.take (Jn.fit 18 [[97], [98, 99]]) _ = _
    rw [ex_fit]; rfl
theorem ex_recs : Jn.recs 65536 (Jn.encs [[97]]) = [[97]] := by
  have h := Jn.recs_app [[97]] 65536 [] (fun p hp => by simp at hp; subst hp; simp) (by simp)
  rw [List.append_nil, recs_nil, List.append_nil] at h; exact h
set_option maxHeartbeats 4000000 in
set_option maxRecDepth 20000 in
theorem alive_ret (w : World) :
    Ret Try.prog 14 #[] w fun v w' => v = .bool true ∧ Ext w w' := by
  have hM := M.start w
  refine enter Try.func14 rfl (by kernel_rfl) Try.ntmps14 rfl ?_
  refine C.seq <| C.region <| E.asg rfl rfl <| E.nil <| X.next <| C.seq <| C.region <| ?_
  refine E.call rfl rfl (Record_ret nilS [] _ (RdL.nil u8 _)) ?_
  rintro _ w1 ⟨u1, m1, e1, rfl, m, h1⟩
  obtain ⟨_, rfl, rfl⟩ := h1.resolve_left (by simp)
  rw [rec_nil] at m
  have hM := hM.call m
  try dsimp only [List.nil_append, List.cons_append, List.set_cons_zero, List.set_cons_succ, repl] at hM
  refine E.mv rfl rfl <| E.ext rfl rfl rfl <| E.ext rfl rfl rfl <| E.asg rfl rfl <| E.asg rfl rfl <| E.nil <| X.next <| C.seq <| C.region <| ?_
  refine E.call rfl rfl (Open_ret nilS [] _ (RdL.nil u8 _) (by simp)) ?_
  rintro _ w2 ⟨b, rfl, vr, hs, m⟩
  rw [recs_nil] at m
  have hM := hM.call m
  try dsimp only [List.nil_append, List.cons_append, List.set_cons_zero, List.set_cons_succ, repl] at hM
  refine E.mv rfl rfl <| E.ext rfl rfl rfl <| E.ext rfl rfl rfl <| E.asg rfl rfl <| E.asg rfl rfl <| E.nil <| X.next <| C.seq <| ?_

  refine C.chainE [(3, _)] rfl [(33, .bool false)] ?_ ?_
  ·
    refine C.region <| E.mv rfl rfl <| E.bin rfl rfl rfl rfl <| E.mv rfl rfl <| ?_
    refine E.split 21 rfl (fun g21 => ?_) (fun g21 => ?_)
    ·
      try simp only [decide_eq_true_eq, decide_eq_false_iff_not, ne_eq, Decidable.not_not, Bool.not_eq_true', Bool.not_eq_false'] at g21
      exact absurd g21 (by first | decide | (simp; done))
    ·
      try simp only [decide_eq_true_eq, decide_eq_false_iff_not, ne_eq, Decidable.not_not, Bool.not_eq_true', Bool.not_eq_false'] at g21
      refine E.on rfl rfl (E.mv rfl rfl ?_)
      refine E.on rfl rfl (E.bin rfl rfl rfl rfl ?_)
      refine E.pick rfl rfl rfl <| E.mv rfl rfl <| ?_
      refine E.split 25 rfl (fun g25 => ?_) (fun g25 => ?_)
      ·
        try simp only [decide_eq_true_eq, decide_eq_false_iff_not, ne_eq, Decidable.not_not, Bool.not_eq_true', Bool.not_eq_false'] at g25
        exact absurd g25 (by first | decide | (simp; done))
      ·
        try simp only [decide_eq_true_eq, decide_eq_false_iff_not, ne_eq, Decidable.not_not, Bool.not_eq_true', Bool.not_eq_false'] at g25
        refine E.on rfl rfl (E.mv rfl rfl ?_)
        refine E.on rfl rfl (E.eqnil rfl rfl Try.underlying33 rfl ?_)
        refine E.pick rfl rfl rfl <| E.mv rfl rfl <| ?_
        refine E.split 29 rfl (fun g29 => ?_) (fun g29 => ?_)
        ·
          try simp only [decide_eq_true_eq, decide_eq_false_iff_not, ne_eq, Decidable.not_not, Bool.not_eq_true', Bool.not_eq_false'] at g29
          exact absurd g29 (by first | decide | (simp; done))
        ·
          try simp only [decide_eq_true_eq, decide_eq_false_iff_not, ne_eq, Decidable.not_not, Bool.not_eq_true', Bool.not_eq_false'] at g29
          refine E.on rfl rfl (E.mv rfl rfl ?_)
          refine E.on rfl rfl (E.bstr rfl (by first | exact hM.sl 0 rfl | exact hM.sl 1 rfl | exact hM.sl 2 rfl | exact hM.sl 3 rfl | exact hM.sl 4 rfl | exact hM.sl 5 rfl | exact hM.sl 6 rfl | exact hM.sl 7 rfl | exact hM.sl 8 rfl | exact hM.sl 9 rfl | exact hM.sl 10 rfl | exact hM.sl 11 rfl | exact hM.arg0 (by assumption) | exact hM.arg (by assumption) (by assumption) | assumption) Try.underlying22 Try.underlying5 Try.underlying9 rfl ?_)
          refine E.on rfl rfl (E.nestr rfl rfl rfl ?_)
          refine E.pick rfl rfl rfl <| E.nil <| X.join0 (Sub.cons (look_eq rfl (by rfl)) <| Sub.nil _) rfl rfl
  refine C.cond rfl (fun hC0 => ?_) (fun hC0 => ?_)
  ·
    cases hC0
  ·
    refine C.skip <| X.next <| C.seq <| C.region <| E.mv rfl rfl <| ?_
    refine E.litM (l := [97]) hM rfl (fun _ => by kernel_rfl) Try.underlying22 Try.underlying5 rfl (by decide) rfl rfl ?_
    intro v36 w2 hM
    try dsimp only [List.nil_append, List.cons_append, List.set_cons_zero, List.set_cons_succ, repl] at hM
    refine E.call rfl rfl (Append_ret b vr hs [] v36 [97] _ (hM.pick [1, 2, 3] (by decide)).sep jok_nil (hM.stb [1, 2, 3] rfl 4 (by decide) rfl)) ?_
    rintro _ w3 ⟨e3, ls3, rfl, hsp3, vr3, hs3, m3⟩
    obtain ⟨rfl, rfl⟩ := app_fine hsp3 (by simp) (by simp) (by simp [Jn.siz])
    have hok3 := hsp3.ok jok_nil
    have hM := hM.calls [1, 2, 3] (by decide) rfl (by simp) m3
    try dsimp only [List.nil_append, List.cons_append, List.set_cons_zero, List.set_cons_succ, repl] at hM
    refine E.mv rfl rfl <| ?_
    refine E.litM (l := [98, 99]) hM rfl (fun _ => by kernel_rfl) Try.underlying22 Try.underlying5 rfl (by decide) rfl rfl ?_
    intro v40 w4 hM
    try dsimp only [List.nil_append, List.cons_append, List.set_cons_zero, List.set_cons_succ, repl] at hM
    refine E.call rfl rfl (Append_ret b vr3 hs3 _ v40 [98, 99] _ (hM.pick [1, 2, 3] (by decide)).sep hok3 (hM.stb [1, 2, 3] rfl 5 (by decide) rfl)) ?_
    rintro _ w4 ⟨e4, ls4, rfl, hsp4, vr4, hs4, m4⟩
    obtain ⟨rfl, rfl⟩ := app_fine hsp4 (by simp) (by simp) (by simp [Jn.siz])
    have hok4 := hsp4.ok hok3
    have hM := hM.calls [1, 2, 3] (by decide) rfl (by simp) m4
    try dsimp only [List.nil_append, List.cons_append, List.set_cons_zero, List.set_cons_succ, repl] at hM
    refine E.asg rfl rfl <| E.asg rfl rfl <| E.nil <| X.next <| C.seq <| C.region <| E.mv rfl rfl <| ?_
    refine E.call rfl rfl (Bytes_ret b vr4 hs4 _ _ (hM.pick [1, 2, 3] (by decide)).sep hok4) ?_
    rintro v43 w5 ⟨vr5, hs5, m5⟩
    have hM := hM.calls [1, 2, 3] (by decide) rfl (by simp) m5
    try dsimp only [List.nil_append, List.cons_append, List.set_cons_zero, List.set_cons_succ, repl] at hM
    refine E.lenv rfl (Rd.shape (by first | exact hM.sl 0 rfl | exact hM.sl 1 rfl | exact hM.sl 2 rfl | exact hM.sl 3 rfl | exact hM.sl 4 rfl | exact hM.sl 5 rfl | exact hM.sl 6 rfl | exact hM.sl 7 rfl | exact hM.sl 8 rfl | exact hM.sl 9 rfl | exact hM.sl 10 rfl | exact hM.sl 11 rfl | exact hM.arg0 (by assumption) | exact hM.arg (by assumption) (by assumption) | assumption)) Try.underlying22 rfl ?_
    refine E.asg rfl rfl <| E.nil <| X.next <| C.seq <| C.region <| E.mv rfl rfl <| ?_
    refine E.call rfl rfl (Truncate_ret b vr5 hs5 _ 1 _ (hM.pick [1, 2, 3] (by decide)).sep hok4) ?_
    rintro _ w6 ⟨e6, ls6, rfl, hsp6, vr6, hs6, m6⟩
    have hok6 := hsp6.ok hok4
    obtain ⟨rfl, rfl⟩ := ex_trunc hsp6
    have hM := hM.calls [1, 2, 3] (by decide) rfl (by simp) m6
    try dsimp only [List.nil_append, List.cons_append, List.set_cons_zero, List.set_cons_succ, repl] at hM
    refine E.asg rfl rfl <| E.nil <| X.next <| C.seq <| C.region <| E.mv rfl rfl <| ?_
    refine E.call rfl rfl (Bytes_ret b vr6 hs6 _ _ (hM.pick [1, 2, 3] (by decide)).sep hok6) ?_
    rintro v49 w7 ⟨vr7, hs7, m7⟩
    have hM := hM.calls [1, 2, 3] (by decide) rfl (by simp) m7
    try dsimp only [List.nil_append, List.cons_append, List.set_cons_zero, List.set_cons_succ, repl] at hM
    refine E.call rfl rfl (Recover_ret v49 _ _ (hM.sl 7 rfl)) ?_
    rintro _ w8 ⟨ur8, hs8, rfl, m8⟩
    rw [ex_recs] at m8 ⊢
    have hM := hM.call m8
    have hb8 := hM.bag 9 rfl
    try dsimp only [List.nil_append, List.cons_append, List.set_cons_zero, List.set_cons_succ, repl] at hM
    refine E.mv rfl rfl <| E.ext rfl rfl rfl <| E.ext rfl rfl rfl <| E.asg rfl rfl <| E.asg rfl rfl <| E.nil <| X.next <| ?_

    refine C.cut0 [] rfl [(0, .bool true)] (fun w' => M w (Nn) w' []) ?_ ?_
    ·
      refine C.region <| E.mv rfl rfl <| E.bin rfl rfl rfl rfl <| E.mv rfl rfl <| ?_
      refine E.split 55 rfl (fun g55 => ?_) (fun g55 => ?_)
      ·
        try simp only [decide_eq_true_eq, decide_eq_false_iff_not, ne_eq, Decidable.not_not, Bool.not_eq_true', Bool.not_eq_false'] at g55
        refine E.on rfl rfl (E.mv rfl rfl ?_)
        refine E.on rfl rfl (E.bin rfl rfl rfl rfl ?_)
        refine E.pick rfl rfl rfl <| E.mv rfl rfl <| ?_
        refine E.split 59 rfl (fun g59 => ?_) (fun g59 => ?_)
        ·
          try simp only [decide_eq_true_eq, decide_eq_false_iff_not, ne_eq, Decidable.not_not, Bool.not_eq_true', Bool.not_eq_false'] at g59
          refine E.on rfl rfl (E.mv rfl rfl ?_)
          refine E.on rfl rfl (E.bin rfl rfl rfl rfl ?_)
          refine E.pick rfl rfl rfl <| E.mv rfl rfl <| ?_
          refine E.split 63 rfl (fun g63 => ?_) (fun g63 => ?_)
          ·
            try simp only [decide_eq_true_eq, decide_eq_false_iff_not, ne_eq, Decidable.not_not, Bool.not_eq_true', Bool.not_eq_false'] at g63
            refine E.on rfl rfl (E.mv rfl rfl ?_)
            refine E.on rfl rfl (E.bin rfl rfl rfl rfl ?_)
            refine E.pick rfl rfl rfl <| E.mv rfl rfl <| ?_
            refine E.split 67 rfl (fun g67 => ?_) (fun g67 => ?_)
            ·
              try simp only [decide_eq_true_eq, decide_eq_false_iff_not, ne_eq, Decidable.not_not, Bool.not_eq_true', Bool.not_eq_false'] at g67
              refine E.on rfl rfl (E.mv rfl rfl ?_)
              refine E.on rfl rfl (E.bin rfl rfl rfl rfl ?_)
              refine E.pick rfl rfl rfl <| E.mv rfl rfl <| ?_
              refine E.split 71 rfl (fun g71 => ?_) (fun g71 => ?_)
              ·
                try simp only [decide_eq_true_eq, decide_eq_false_iff_not, ne_eq, Decidable.not_not, Bool.not_eq_true', Bool.not_eq_false'] at g71
                refine E.on rfl rfl (E.mv rfl rfl ?_)
                refine E.on rfl rfl (E.lenv rfl (Rd.shape (by first | exact hM.sl 0 rfl | exact hM.sl 1 rfl | exact hM.sl 2 rfl | exact hM.sl 3 rfl | exact hM.sl 4 rfl | exact hM.sl 5 rfl | exact hM.sl 6 rfl | exact hM.sl 7 rfl | exact hM.sl 8 rfl | exact hM.sl 9 rfl | exact hM.sl 10 rfl | exact hM.sl 11 rfl | exact hM.arg0 (by assumption) | exact hM.arg (by assumption) (by assumption) | assumption)) Try.underlying27 rfl ?_)
                refine E.on rfl rfl (E.bin rfl rfl rfl rfl ?_)
                refine E.pick rfl rfl rfl <| E.mv rfl rfl <| ?_
                refine E.split 76 rfl (fun g76 => ?_) (fun g76 => ?_)
                ·
                  try simp only [decide_eq_true_eq, decide_eq_false_iff_not, ne_eq, Decidable.not_not, Bool.not_eq_true', Bool.not_eq_false'] at g76
                  refine E.on rfl rfl (E.mv rfl rfl ?_)
                  refine E.on rfl rfl (E.idx1 (k := 0) rfl rfl (by first | exact hM.sl 0 rfl | exact hM.sl 1 rfl | exact hM.sl 2 rfl | exact hM.sl 3 rfl | exact hM.sl 4 rfl | exact hM.sl 5 rfl | exact hM.sl 6 rfl | exact hM.sl 7 rfl | exact hM.sl 8 rfl | exact hM.sl 9 rfl | exact hM.sl 10 rfl | exact hM.sl 11 rfl | exact hM.arg0 (by assumption) | exact hM.arg (by assumption) (by assumption) | assumption) rfl (by first | omega | (simp only [List.length_replicate, List.length_append, List.length_set, List.length_cons, List.length_nil, List.length_map, List.length_range, List.length_take, List.length_drop, List.length_zipWith] at *; omega)) Try.underlying27 (by kernel_rfl) rfl ?_)
                  refine E.on rfl rfl (E.load rfl Try.underlying22 rfl ((hM.sl 8 rfl).cellA rfl (by have := hb8.1; simp at this; omega)) rfl ?_)
                  refine E.on rfl rfl (E.bstr rfl (hb8.at (i := 0) (by simp)) Try.underlying22 Try.underlying5 Try.underlying9 rfl ?_)
                  refine E.on rfl rfl (E.eqstr rfl rfl rfl ?_)
                  refine E.pick rfl rfl rfl <| E.mv rfl rfl <| ?_
                  refine E.split 83 rfl (fun g83 => ?_) (fun g83 => ?_)
                  ·
                    try simp only [decide_eq_true_eq, decide_eq_false_iff_not, ne_eq, Decidable.not_not, Bool.not_eq_true', Bool.not_eq_false'] at g83
                    refine E.on rfl rfl (E.mv rfl rfl ?_)
                    refine E.on rfl rfl (E.call rfl rfl (Records_ret b vr7 hs7 _ _ (hM.pick [1, 2, 3] (by decide)).sep hok6) ?_)
                    rintro v85 w9 ⟨hs9, vr9, hs9', m9⟩
                    have hM := hM.calls [1, 2, 3] (by decide) rfl (by simp) m9
                    try dsimp only [List.nil_append, List.cons_append, List.set_cons_zero, List.set_cons_succ, repl] at hM
                    refine E.on rfl rfl (E.mv rfl rfl ?_)
                    refine E.on rfl rfl (E.call rfl rfl (Same_ret v85 _ hs9 hs8 _ _ _ (hM.sl 10 rfl) (hM.bag 11 rfl) (hM.sl 8 rfl) (hM.bag 9 rfl)) ?_)
                    rintro _ w10 ⟨rfl, x10⟩
                    have hM := hM.ext x10
                    rw [decide_eq_true rfl]
                    try dsimp only [List.nil_append, List.cons_append, List.set_cons_zero, List.set_cons_succ, repl] at hM

                    refine E.pick rfl rfl rfl <| E.asg rfl rfl <| E.nil <| X.join0  (Sub.cons rfl <| Sub.nil _) rfl (hM.pick [] (by decide))
                  ·
                    try simp only [decide_eq_true_eq, decide_eq_false_iff_not, ne_eq, Decidable.not_not, Bool.not_eq_true', Bool.not_eq_false'] at g83
                    exact (g83 rfl).elim
                ·
                  try simp only [decide_eq_true_eq, decide_eq_false_iff_not, ne_eq, Decidable.not_not, Bool.not_eq_true', Bool.not_eq_false'] at g76
                  exact (g76 (by have := hb8.1; simp at this; omega)).elim
              ·
                try simp only [decide_eq_true_eq, decide_eq_false_iff_not, ne_eq, Decidable.not_not, Bool.not_eq_true', Bool.not_eq_false'] at g71
                exact (g71 (by decide)).elim
            ·
              try simp only [decide_eq_true_eq, decide_eq_false_iff_not, ne_eq, Decidable.not_not, Bool.not_eq_true', Bool.not_eq_false'] at g67
              exact (g67 (by rw [Jn.encs_len]; decide)).elim
          ·
            try simp only [decide_eq_true_eq, decide_eq_false_iff_not, ne_eq, Decidable.not_not, Bool.not_eq_true', Bool.not_eq_false'] at g63
            exact absurd g63 (by first | decide | (simp; done))
        ·
          try simp only [decide_eq_true_eq, decide_eq_false_iff_not, ne_eq, Decidable.not_not, Bool.not_eq_true', Bool.not_eq_false'] at g59
          exact absurd g59 (by first | decide | (simp; done))
      ·
        try simp only [decide_eq_true_eq, decide_eq_false_iff_not, ne_eq, Decidable.not_not, Bool.not_eq_true', Bool.not_eq_false'] at g55
        exact absurd g55 (by first | decide | (simp; done))
    rintro  w12 hM
    refine C.ret <| ret1 rfl rfl ?_
    exact ⟨rfl, hM.toExt⟩

set_option maxHeartbeats 1000000 in
theorem JournalRecords_ret (p : Value) (l : List UInt8) (q : Value) (m : List UInt8) (w : World) (hl : RdL u8 w p l) (hm : RdL u8 w q m) :
    Ret Try.prog 3 #[p, q] w fun v w' => v = .bool true ∧ Ext w w' := by
  have hM := M.start w
  refine enter Try.func3 rfl (by kernel_rfl) Try.ntmps3 rfl ?_
  refine C.seq <| C.region <| E.asg rfl rfl <| E.nil <| X.next <| C.seq <| ?_

  refine C.chainE [(0, _), (1, _)] rfl [(20, .bool (decide (2000 < l.length ∨ 2000 < m.length)))] ?_ ?_
  ·
    refine C.region <| E.mv rfl rfl <| ?_
    refine E.lenv rfl (Rd.shape (hM.arg0 hl)) Try.underlying22 rfl ?_
    refine E.bin rfl rfl rfl rfl <| E.mv rfl rfl <| ?_
    refine E.split 16 rfl (fun g16 => ?_) (fun g16 => ?_)
    ·
      try simp only [decide_eq_true_eq, decide_eq_false_iff_not, ne_eq, Decidable.not_not, Bool.not_eq_true', Bool.not_eq_false'] at g16
      refine E.off rfl rfl rfl rfl <| E.off rfl rfl rfl rfl <| E.off rfl rfl rfl rfl <| E.pick rfl rfl rfl <| E.nil <| X.join0 (Sub.cons (by (first | exact leaf_f (by omega) | exact leaf_t (by omega) | exact leaf_d (by omega) | exact leaf_f (by first | (simp [*] <;> fail) | omega) | exact leaf_t (by first | (simp [*] <;> fail) | omega) | exact leaf_d (by first | (simp [*] <;> fail) | omega) | exact leaf_f (by (first | omega | ((try simp only [decide_eq_true_eq, decide_eq_false_iff_not, Bool.not_eq_true', Bool.not_eq_false'] at *); first | omega | (simp_all <;> fail) | (simp_all; omega)))) | exact leaf_t (by (first | omega | ((try simp only [decide_eq_true_eq, decide_eq_false_iff_not, Bool.not_eq_true', Bool.not_eq_false'] at *); first | omega | (simp_all <;> fail) | (simp_all; omega)))) | exact leaf_d (by (first | omega | ((try simp only [decide_eq_true_eq, decide_eq_false_iff_not, Bool.not_eq_true', Bool.not_eq_false'] at *); first | omega | (simp_all <;> fail) | (simp_all; omega)))))) <| Sub.nil _) rfl rfl
    ·
      try simp only [decide_eq_true_eq, decide_eq_false_iff_not, ne_eq, Decidable.not_not, Bool.not_eq_true', Bool.not_eq_false'] at g16
      refine E.on rfl rfl (E.mv rfl rfl ?_)
      refine E.on rfl rfl (E.lenv rfl (Rd.shape (hM.arg0 hm)) Try.underlying22 rfl ?_)
      refine E.on rfl rfl (E.bin rfl rfl rfl rfl ?_)
      refine E.pick rfl rfl rfl <| E.nil <| X.join0 (Sub.cons (by (first | exact leaf_f (by omega) | exact leaf_t (by omega) | exact leaf_d (by omega) | exact leaf_f (by first | (simp [*] <;> fail) | omega) | exact leaf_t (by first | (simp [*] <;> fail) | omega) | exact leaf_d (by first | (simp [*] <;> fail) | omega) | exact leaf_f (by (first | omega | ((try simp only [decide_eq_true_eq, decide_eq_false_iff_not, Bool.not_eq_true', Bool.not_eq_false'] at *); first | omega | (simp_all <;> fail) | (simp_all; omega)))) | exact leaf_t (by (first | omega | ((try simp only [decide_eq_true_eq, decide_eq_false_iff_not, Bool.not_eq_true', Bool.not_eq_false'] at *); first | omega | (simp_all <;> fail) | (simp_all; omega)))) | exact leaf_d (by (first | omega | ((try simp only [decide_eq_true_eq, decide_eq_false_iff_not, Bool.not_eq_true', Bool.not_eq_false'] at *); first | omega | (simp_all <;> fail) | (simp_all; omega)))))) <| Sub.nil _) rfl rfl
  refine C.cond' rfl (fun hC0 => ?_) (fun hC0 => ?_)
  ·
    refine C.seq <| C.region <| ?_
    refine E.call rfl rfl (alive_ret _) ?_
    rintro _ w1 ⟨rfl, x1⟩
    have hM := hM.ext x1
    try dsimp only [List.nil_append, List.cons_append, List.set_cons_zero, List.set_cons_succ, repl] at hM
    refine E.asg rfl rfl <| E.nil <| X.next <| C.ret <| X.retT <| ret1 rfl rfl ?_
    exact ⟨rfl, hM.toExt⟩
  ·
    refine C.skip <| X.next <| C.seq <| C.region <| E.mv rfl rfl <| ?_
    refine E.call rfl rfl (Record_ret p l _ (hM.arg0 hl)) ?_
    rintro _ w1 ⟨u1, m1, e1, rfl, m', h1⟩
    have hM := hM.call m'
    obtain ⟨_, rfl, rfl⟩ := h1.resolve_left (by omega)
    try dsimp only [List.nil_append, List.cons_append, List.set_cons_zero, List.set_cons_succ, repl] at hM
    refine E.mv rfl rfl <| E.ext rfl rfl rfl <| E.ext rfl rfl rfl <| E.asg rfl rfl <| E.asg rfl rfl <| E.nil <| X.next <| C.seq <| C.region <| E.mv rfl rfl <| ?_
    refine E.call rfl rfl (rRecord_ret p l _ (hM.arg0 hl)) ?_
    rintro _ w2 ⟨u2, m2, e2, rfl, m', h2⟩
    have hM := hM.call m'
    obtain ⟨_, rfl, rfl⟩ := h2.resolve_left (by omega)
    try dsimp only [List.nil_append, List.cons_append, List.set_cons_zero, List.set_cons_succ, repl] at hM
    refine E.mv rfl rfl <| E.ext rfl rfl rfl <| E.ext rfl rfl rfl <| E.asg rfl rfl <| E.asg rfl rfl <| E.nil <| X.next <| C.seq <| C.region <| E.mv rfl rfl <| ?_
    refine E.call rfl rfl (Recover_ret q m _ (hM.arg0 hm)) ?_
    rintro _ w3 ⟨u3, hs3, rfl, m'⟩
    have hM := hM.call m'
    try dsimp only [List.nil_append, List.cons_append, List.set_cons_zero, List.set_cons_succ, repl] at hM
    refine E.mv rfl rfl <| E.ext rfl rfl rfl <| E.ext rfl rfl rfl <| E.asg rfl rfl <| E.asg rfl rfl <| E.nil <| X.next <| C.seq <| C.region <| E.mv rfl rfl <| ?_
    refine E.call rfl rfl (rRecover_ret q m _ (hM.arg0 hm)) ?_
    rintro _ w4 ⟨u4, hs4, rfl, m'⟩
    have hM := hM.call m'
    try dsimp only [List.nil_append, List.cons_append, List.set_cons_zero, List.set_cons_succ, repl] at hM
    refine E.mv rfl rfl <| E.ext rfl rfl rfl <| E.ext rfl rfl rfl <| E.asg rfl rfl <| E.asg rfl rfl <| E.nil <| X.next <| ?_

    refine C.cut0 [] rfl [(4, .bool true)] (fun w' => M w (Nn) w' []) ?_ ?_
    ·
      refine C.region <| E.mv rfl rfl <| ?_
      refine E.bstr rfl (hM.sl 0 rfl) Try.underlying22 Try.underlying5 Try.underlying9 rfl ?_
      refine E.mv rfl rfl <| ?_
      refine E.bstr rfl (hM.sl 1 rfl) Try.underlying22 Try.underlying5 Try.underlying9 rfl ?_
      refine E.eqstr rfl rfl rfl ?_
      refine E.mv rfl rfl <| ?_
      refine E.split 47 rfl (fun g47 => ?_) (fun g47 => ?_)
      ·
        try simp only [decide_eq_true_eq, decide_eq_false_iff_not, ne_eq, Decidable.not_not, Bool.not_eq_true', Bool.not_eq_false'] at g47
        refine E.on rfl rfl (E.mv rfl rfl ?_)
        refine E.on rfl rfl (E.mv rfl rfl ?_)
        refine E.on rfl rfl (E.bin rfl rfl rfl rfl ?_)
        refine E.pick rfl rfl rfl <| E.mv rfl rfl <| ?_
        refine E.split 52 rfl (fun g52 => ?_) (fun g52 => ?_)
        ·
          try simp only [decide_eq_true_eq, decide_eq_false_iff_not, ne_eq, Decidable.not_not, Bool.not_eq_true', Bool.not_eq_false'] at g52
          refine E.on rfl rfl (E.mv rfl rfl ?_)
          refine E.on rfl rfl (E.mv rfl rfl ?_)
          refine E.on rfl rfl (E.call rfl rfl (Same_ret u3 u4 hs3 hs4 _ _ _ (hM.sl 2 rfl) (hM.bag 3 rfl) (hM.sl 4 rfl) (hM.bag 5 rfl)) ?_)
          rintro _ w5 ⟨rfl, x5⟩
          have hM := hM.ext x5
          rw [decide_eq_true rfl]
          try dsimp only [List.nil_append, List.cons_append, List.set_cons_zero, List.set_cons_succ, repl] at hM
          refine E.pick rfl rfl rfl <| E.mv rfl rfl <| ?_
          refine E.split 57 rfl (fun g57 => ?_) (fun g57 => ?_)
          ·
            try simp only [decide_eq_true_eq, decide_eq_false_iff_not, ne_eq, Decidable.not_not, Bool.not_eq_true', Bool.not_eq_false'] at g57
            refine E.on rfl rfl (E.mv rfl rfl ?_)
            refine E.on rfl rfl (E.mv rfl rfl ?_)
            refine E.on rfl rfl (E.bin rfl rfl rfl rfl ?_)
            refine E.pick rfl rfl rfl <| E.mv rfl rfl <| ?_
            refine E.split 62 rfl (fun g62 => ?_) (fun g62 => ?_)
            ·
              try simp only [decide_eq_true_eq, decide_eq_false_iff_not, ne_eq, Decidable.not_not, Bool.not_eq_true', Bool.not_eq_false'] at g62
              refine E.on rfl rfl (E.call rfl rfl (alive_ret _) ?_)
              rintro _ w6 ⟨rfl, x6⟩
              have hM := hM.ext x6
              try dsimp only [List.nil_append, List.cons_append, List.set_cons_zero, List.set_cons_succ, repl] at hM

              refine E.pick rfl rfl rfl <| E.asg rfl rfl <| E.nil <| X.join0  (Sub.cons rfl <| Sub.nil _) rfl (hM.pick [] (by decide))
            ·
              try simp only [decide_eq_true_eq, decide_eq_false_iff_not, ne_eq, Decidable.not_not, Bool.not_eq_true', Bool.not_eq_false'] at g62
              exact (g62 (by trivial)).elim
          ·
            try simp only [decide_eq_true_eq, decide_eq_false_iff_not, ne_eq, Decidable.not_not, Bool.not_eq_true', Bool.not_eq_false'] at g57
            exact absurd g57 (by decide)
        ·
          try simp only [decide_eq_true_eq, decide_eq_false_iff_not, ne_eq, Decidable.not_not, Bool.not_eq_true', Bool.not_eq_false'] at g52
          exact (g52 (by trivial)).elim
      ·
        try simp only [decide_eq_true_eq, decide_eq_false_iff_not, ne_eq, Decidable.not_not, Bool.not_eq_true', Bool.not_eq_false'] at g47
        exact (g47 (by trivial)).elim
    rintro  w7 hM
    refine C.ret <| ret1 rfl rfl ?_
    exact ⟨rfl, hM.toExt⟩

end Go.Proofs.Ytdcgmkoonanpgaa
