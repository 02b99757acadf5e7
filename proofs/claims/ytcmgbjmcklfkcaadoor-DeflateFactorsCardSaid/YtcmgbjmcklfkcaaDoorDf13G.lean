/- DeflateFactors. -/
import Derived.Test.YtcmgbjmcklfkcaaDoorG34
namespace Go.Proofs.YtcmgbjmcklfkcaaDoor
set_option linter.unusedSimpArgs false
set_option linter.unusedVariables false
open Go.RowKit Sym

set_option maxHeartbeats 2000000 in
set_option maxRecDepth 8000 in
theorem DeflateFactors_ret (p : Value) (l : List UInt8) (w : World) (hp : RdL u8 w p l) (hO : Ord w) :
    Ret Tryd.prog 6 #[p] w fun v w' => v = .bool true ∧ Ext w w' := by
  have hM := M.start w
  refine enter Tryd.func6 rfl (by kernel_rfl) Tryd.ntmps6 rfl ?_
  refine C.seq <| C.region <| E.asg rfl rfl <| E.nil <| X.next <| C.seq <| C.seq <| C.region <| E.mv rfl rfl <| ?_
  refine E.lenv rfl (Rd.shape (hM.arg0 hp)) Tryd.underlying22 rfl ?_
  refine E.bin rfl rfl rfl rfl <| E.nil <| X.next <| ?_
  refine C.cond' rfl (fun hC0 => ?_) (fun hC0 => ?_)
  ·
    refine C.seq <| C.region <| ?_
    refine E.call rfl rfl (examples_ret _ (hM.ord0 hO)) ?_
    rintro _ wz ⟨rfl, xz⟩
    have hM := hM.ext xz
    try dsimp only [List.nil_append, List.cons_append, List.set_cons_zero, List.set_cons_succ, repl] at hM
    refine E.asg rfl rfl <| E.nil <| X.next <| C.ret <| X.retT <| ret1 rfl rfl ?_
    exact ⟨rfl, hM.toExt⟩
  ·
    have hl : l.length ≤ 32768 := by omega
    have hex : Df.exv [] (nz (Df.toks l 0)) = (l, 0) := Df.exv_toks hl 0 (Nat.zero_le _)
    have htk := Df.toks_ok hl 0
    have htl := Df.toks_len l 0
    refine C.skip <| X.next <| C.seq <| C.region <| E.mv rfl rfl <| ?_
    refine E.call rfl rfl (Matches_ret p l _ (hM.arg0 hp) hl) ?_
    rintro _ w1 ⟨v17, rfl, m⟩
    have hM := hM.call m
    try dsimp only [List.nil_append, List.cons_append, List.set_cons_zero, List.set_cons_succ, repl] at hM
    try dsimp only [List.nil_append, List.cons_append, List.set_cons_zero, List.set_cons_succ, repl] at hM
    refine E.mv rfl rfl <| E.ext rfl rfl rfl <| E.ext rfl rfl rfl <| E.asg rfl rfl <| E.asg rfl rfl <| E.nil <| X.next <| C.seq <| C.region <| E.mv rfl rfl <| ?_
    refine E.call rfl rfl (Expand_ret v17 _ _ (hM.sl 0 rfl)) ?_
    rintro _ w2 ⟨v22, rfl, m⟩
    have hM := hM.call m
    try dsimp only [List.nil_append, List.cons_append, List.set_cons_zero, List.set_cons_succ, repl] at hM
    rw [hex] at hM
    rw [hex]
    obtain ⟨ts, hts⟩ : ∃ ts, ts = Df.toks l 0 := ⟨_, rfl⟩
    rw [← hts] at hM htk htl
    try dsimp only [List.nil_append, List.cons_append, List.set_cons_zero, List.set_cons_succ, repl] at hM
    refine E.mv rfl rfl <| E.ext rfl rfl rfl <| E.ext rfl rfl rfl <| E.asg rfl rfl <| E.asg rfl rfl <| E.nil <| X.next <| C.seq <| ?_

    refine C.chainE [(0, _), (3, _)] rfl [(37, .bool false)] ?_ ?_
    ·
      refine C.region <| E.mv rfl rfl <| E.bin rfl rfl rfl rfl <| E.mv rfl rfl <| ?_
      refine E.split 27 rfl (fun g27 => ?_) (fun g27 => ?_)
      ·
        try simp only [decide_eq_true_eq, decide_eq_false_iff_not, ne_eq, Decidable.not_not, Bool.not_eq_true', Bool.not_eq_false'] at g27
        first | exact absurd g27 (by decide) | exact (g27 rfl).elim | exact (g27 trivial).elim | omega
      ·
        try simp only [decide_eq_true_eq, decide_eq_false_iff_not, ne_eq, Decidable.not_not, Bool.not_eq_true', Bool.not_eq_false'] at g27
        refine E.on rfl rfl (E.mv rfl rfl ?_)
        refine E.on rfl rfl (E.bin rfl rfl rfl rfl ?_)
        refine E.pick rfl rfl rfl <| E.mv rfl rfl <| ?_
        refine E.split 31 rfl (fun g31 => ?_) (fun g31 => ?_)
        ·
          try simp only [decide_eq_true_eq, decide_eq_false_iff_not, ne_eq, Decidable.not_not, Bool.not_eq_true', Bool.not_eq_false'] at g31
          first | exact absurd g31 (by decide) | exact (g31 rfl).elim | exact (g31 trivial).elim | omega
        ·
          try simp only [decide_eq_true_eq, decide_eq_false_iff_not, ne_eq, Decidable.not_not, Bool.not_eq_true', Bool.not_eq_false'] at g31
          refine E.on rfl rfl (E.mv rfl rfl ?_)
          refine E.on rfl rfl (E.bstr rfl (hM.arg0 hp) Tryd.underlying22 Tryd.underlying5 Tryd.underlying9 rfl ?_)
          refine E.on rfl rfl (E.mv rfl rfl ?_)
          refine E.on rfl rfl (E.bstr rfl (hM.sl 1 rfl) Tryd.underlying22 Tryd.underlying5 Tryd.underlying9 rfl ?_)
          refine E.on rfl rfl (E.nestr rfl rfl rfl ?_)
          refine E.pick rfl rfl rfl <| E.nil <| X.join0 (Sub.cons (look_eq rfl (by first | rfl | (apply congrArg Value.bool; apply decide_eq_false; exact fun h => h rfl))) <| Sub.nil _) rfl rfl
    refine C.cond rfl (fun hC1 => ?_) (fun hC1 => ?_)
    ·
      cases hC1
    ·
      refine C.skip <| X.next <| C.seq <| C.seq <| C.region <| E.mv rfl rfl <| ?_
      refine E.lenv rfl (Rd.shape (hM.sl 0 rfl)) Tryd.underlying29 rfl ?_
      rw [nz_len]
      refine E.mv rfl rfl <| E.nil <| X.next <| C.block <| ?_

      refine C.loop1 [(0, _), (38, _), (39, _)] rfl (fun (i : Nat) => [(40, i64 i)]) (fun (i : Nat) w' => M w (Nn) w' [Rg.sl i64 3 v17 (nz ts)] ∧ i ≤ ts.length) (fun (i : Nat) => ts.length - i) 0 ?_ ?_ ?_
      · exact Sub.cons rfl <| Sub.nil _
      · exact ⟨hM.pick [0] (by decide), Nat.zero_le _⟩
      rintro i w3 ⟨hM, hi⟩
      refine C.seq <| C.region <| E.bin rfl rfl rfl rfl <| E.nil <| X.next <| C.seq <| ?_
      refine C.cond' rfl (fun hC2 => ?_) (fun hC2 => ?_)
      ·
        have hi' : i < ts.length := by omega
        obtain ⟨t, hte⟩ : ∃ t, t = ts[i] := ⟨_, rfl⟩
        have htt := htk ts[i] (List.getElem_mem hi')
        rw [← hte] at htt
        refine C.skip <| X.next <| C.seq <| C.block <| C.seq <| C.region <| ?_
        refine E.get (k := i) rfl rfl (hM.sl 0 rfl) rfl (by rw [nz_len]; omega) Tryd.underlying29 (by kernel_rfl) Tryd.underlying3 rfl rfl rfl ?_
        rw [nz_get hi', ← hte]
        have htb : t ≤ 16973823 := by omega
        refine E.asg rfl rfl <| E.nil <| X.next <| C.seq <| C.region <| E.mv rfl rfl <| ?_
        refine E.quo rfl rfl (by omega) (quoN (b := 65536) (by omega) (by omega)) rfl ?_
        refine E.mv rfl rfl <| ?_
        refine E.rem rfl rfl (by omega) (remN (b := 65536)) rfl ?_
        refine E.asg rfl rfl <| E.asg rfl rfl <| E.nil <| X.next <| ?_

        refine C.chainE [(0, _), (38, _), (39, _), (40, _)] rfl [(71, .bool false)] ?_ ?_
        ·
          refine C.region <| E.mv rfl rfl <| E.bin rfl rfl rfl rfl <| E.mv rfl rfl <| ?_
          refine E.split 50 rfl (fun g50 => ?_) (fun g50 => ?_)
          ·
            try simp only [decide_eq_true_eq, decide_eq_false_iff_not, ne_eq, Decidable.not_not, Bool.not_eq_true', Bool.not_eq_false'] at g50
            omega
          ·
            try simp only [decide_eq_true_eq, decide_eq_false_iff_not, ne_eq, Decidable.not_not, Bool.not_eq_true', Bool.not_eq_false'] at g50
            refine E.on rfl rfl (E.mv rfl rfl ?_)
            refine E.on rfl rfl (E.bin rfl rfl rfl rfl ?_)
            refine E.on rfl rfl (E.mv rfl rfl ?_)
            refine E.split 53 rfl (fun g53 => ?_) (fun g53 => ?_)
            ·
              try simp only [decide_eq_true_eq, decide_eq_false_iff_not, ne_eq, Decidable.not_not, Bool.not_eq_true', Bool.not_eq_false'] at g53
              refine E.on rfl rfl (E.mv rfl rfl ?_)
              refine E.on rfl rfl (E.bin rfl rfl rfl rfl ?_)
              refine E.on rfl rfl (E.mv rfl rfl ?_)
              refine E.split 56 rfl (fun g56 => ?_) (fun g56 => ?_)
              ·
                try simp only [decide_eq_true_eq, decide_eq_false_iff_not, ne_eq, Decidable.not_not, Bool.not_eq_true', Bool.not_eq_false'] at g56
                omega
              ·
                try simp only [decide_eq_true_eq, decide_eq_false_iff_not, ne_eq, Decidable.not_not, Bool.not_eq_true', Bool.not_eq_false'] at g56
                refine E.on rfl rfl (E.mv rfl rfl ?_)
                refine E.on rfl rfl (E.bin rfl rfl rfl rfl ?_)
                refine E.on rfl rfl (E.pick rfl rfl rfl ?_)
                refine E.on rfl rfl (E.mv rfl rfl ?_)
                refine E.split 60 rfl (fun g60 => ?_) (fun g60 => ?_)
                ·
                  try simp only [decide_eq_true_eq, decide_eq_false_iff_not, ne_eq, Decidable.not_not, Bool.not_eq_true', Bool.not_eq_false'] at g60
                  omega
                ·
                  try simp only [decide_eq_true_eq, decide_eq_false_iff_not, ne_eq, Decidable.not_not, Bool.not_eq_true', Bool.not_eq_false'] at g60
                  refine E.on rfl rfl (E.mv rfl rfl ?_)
                  refine E.on rfl rfl (E.bin rfl rfl rfl rfl ?_)
                  refine E.on rfl rfl (E.pick rfl rfl rfl ?_)
                  refine E.on rfl rfl (E.mv rfl rfl ?_)
                  refine E.split 64 rfl (fun g64 => ?_) (fun g64 => ?_)
                  ·
                    try simp only [decide_eq_true_eq, decide_eq_false_iff_not, ne_eq, Decidable.not_not, Bool.not_eq_true', Bool.not_eq_false'] at g64
                    omega
                  ·
                    try simp only [decide_eq_true_eq, decide_eq_false_iff_not, ne_eq, Decidable.not_not, Bool.not_eq_true', Bool.not_eq_false'] at g64
                    refine E.on rfl rfl (E.mv rfl rfl ?_)
                    refine E.on rfl rfl (E.mv rfl rfl ?_)
                    refine E.on rfl rfl (E.lenv rfl (Rd.shape (hM.arg0 hp)) Tryd.underlying22 rfl ?_)
                    refine E.on rfl rfl (E.bin rfl rfl rfl rfl ?_)
                    refine E.on rfl rfl (E.pick rfl rfl rfl ?_)
                    refine E.on rfl rfl (E.pick rfl rfl rfl ?_)
                    refine E.pick rfl rfl rfl <| E.nil <| X.join0 (Sub.cons (look_eq rfl (by first | rfl | (apply congrArg Value.bool; apply decide_eq_false; omega))) <| Sub.nil _) rfl rfl
            ·
              try simp only [decide_eq_true_eq, decide_eq_false_iff_not, ne_eq, Decidable.not_not, Bool.not_eq_true', Bool.not_eq_false'] at g53
              refine E.off rfl rfl rfl rfl <| E.off rfl rfl rfl rfl <| E.off rfl rfl rfl rfl <| E.offu rfl rfl rfl <| E.offu rfl rfl rfl <| E.off rfl rfl rfl rfl <| E.off rfl rfl rfl rfl <| E.offu rfl rfl rfl <| E.offu rfl rfl rfl <| E.off rfl rfl rfl rfl <| E.off rfl rfl rfl rfl <| E.offu rfl rfl rfl <| E.offu rfl rfl rfl <| E.offu rfl rfl rfl <| E.offu rfl rfl rfl <| E.off rfl rfl rfl rfl <| ?_
              refine E.on rfl rfl (E.pick rfl rfl rfl ?_)
              refine E.pick rfl rfl rfl <| E.nil <| X.join0 (Sub.cons (look_eq rfl (by first | rfl | (apply congrArg Value.bool; apply decide_eq_false; omega))) <| Sub.nil _) rfl rfl
        refine C.cond rfl (fun hC3 => ?_) (fun hC3 => ?_)
        ·
          cases hC3
        ·
          refine C.skip <| X.outN <| X.next <| C.region <| ?_
          refine E.addN (a := i) (b := 1) rfl rfl (by omega) rfl ?_

          refine E.mv rfl rfl <| E.nil <| X.again1 (i + 1) (Sub.cons rfl <| Sub.nil _) rfl ⟨hM, by omega⟩ (by omega)
      ·
        refine C.exit <| X.exitT <| X.exitT <| X.outE <| X.next <| C.seq <| C.region <| ?_
        refine E.call rfl rfl (examples_ret _ (hM.ord0 hO)) ?_
        rintro _ wz ⟨rfl, xz⟩
        have hM := hM.ext xz
        try dsimp only [List.nil_append, List.cons_append, List.set_cons_zero, List.set_cons_succ, repl] at hM
        refine E.asg rfl rfl <| E.nil <| X.next <| C.ret <| ret1 rfl rfl ?_
        exact ⟨rfl, hM.toExt⟩

end Go.Proofs.YtcmgbjmcklfkcaaDoor
