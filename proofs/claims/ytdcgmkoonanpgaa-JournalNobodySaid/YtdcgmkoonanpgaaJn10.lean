/- law 53: Nobody. -/
import Derived.Test.YtdcgmkoonanpgaaJnB
namespace Go.Proofs.Ytdcgmkoonanpgaa
set_option linter.unusedSimpArgs false
set_option linter.unusedVariables false
open Go.RowKit Sym Go.Conc.Locks

theorem lockN_ret (w : World) :
    Ret Try.prog 53 #[.pointer none] w fun v w' => v = .bool false ∧ Ext w w' := by
  have hM := M.start w
  refine enter Try.func53 rfl (by kernel_rfl) Try.ntmps53 rfl ?_
  refine C.seq <| C.region <| E.asg rfl rfl <| E.nil <| X.next <| C.seq <| C.seq <| C.region <| E.mv rfl rfl <| E.eqnil rfl rfl Try.underlying33 rfl <| E.nil <| X.next <| ?_
  refine C.cond rfl (fun hC0 => ?_) (fun hC0 => ?_)
  ·
    refine C.seq <| C.region <| E.asg rfl rfl <| E.nil <| X.next <| C.ret <| X.retT <| ret1 rfl rfl ?_
    exact ⟨rfl, hM.toExt⟩
  ·
    cases hC0

theorem lockZ_ret (b : Nat) (w : World) (hs : Sep w [Rg.blk b 64 [.int .i32 0, .int .u32 0, .bool false, nilS, i64 0]]) :
    Ret Try.prog 53 #[jp b] w fun v w' => v = .bool false ∧ Ext w w' := by
  have hJ0 := hs.ok 0 _ rfl
  have hM := M.startS hs
  refine enter Try.func53 rfl (by kernel_rfl) Try.ntmps53 rfl ?_
  refine C.seq <| C.region <| E.asg rfl rfl <| E.nil <| X.next <| C.seq <| C.seq <| C.region <| E.mv rfl rfl <| E.eqnil rfl rfl Try.underlying33 rfl <| E.nil <| X.next <| ?_
  refine C.cond rfl (fun hC0 => ?_) (fun hC0 => ?_)
  ·
    cases hC0
  ·
    refine C.skip <| X.next <| C.seq <| C.region <| E.mv rfl rfl <| E.nilc rfl rfl <| ?_
    refine E.fld (o := 0) (sz := 1) rfl Try.underlying64 rfl rfl (by kernel_rfl) rfl ?_
    refine E.call rfl rfl (lockR muLib lockC 0 hM rfl rfl) ?_
    rintro _ w1 ⟨rfl, hM⟩
    skip
    try dsimp only [List.nil_append, List.cons_append, List.set_cons_zero, List.set_cons_succ, repl] at hM
    refine E.nil <| X.next <| C.seq <| C.seq <| C.region <| E.mv rfl rfl <| E.nilc rfl rfl <| ?_
    refine E.fld (o := 2) (sz := 0) rfl Try.underlying64 rfl rfl (by kernel_rfl) rfl ?_
    refine E.load rfl Try.underlying4 rfl (by first | exact hM.bcell 0 rfl rfl | exact hM.bcell 1 rfl rfl | exact hM.bcell 2 rfl rfl | exact hM.bcell 3 rfl rfl) rfl ?_
    refine E.not rfl rfl <| E.nil <| X.next <| ?_
    refine C.cond rfl (fun hC1 => ?_) (fun hC1 => ?_)
    ·
      refine C.seq <| C.region <| E.mv rfl rfl <| E.nilc rfl rfl <| ?_
      refine E.fld (o := 0) (sz := 1) rfl Try.underlying64 rfl rfl (by kernel_rfl) rfl ?_
      refine E.call rfl rfl (unlockR muLib unlockC 0 hM rfl rfl) ?_
      rintro _ w2 ⟨rfl, hM⟩
      skip
      try dsimp only [List.nil_append, List.cons_append, List.set_cons_zero, List.set_cons_succ, repl] at hM
      refine E.nil <| X.next <| C.seq <| C.region <| E.asg rfl rfl <| E.nil <| X.next <| C.ret <| X.retT <| ret1 rfl rfl ?_
      exact ⟨rfl, (M.quiet hJ0 hM).toExt⟩
    ·
      cases hC1

theorem AppendN_ret (pv q : Value) (w : World) (hL : Ret Try.prog 53 #[pv] w fun v w' => v = .bool false ∧ Ext w w') :
    Ret Try.prog 27 #[pv, q] w fun v w' => v = i64 2 ∧ Ext w w' := by
  have hM := M.start w
  refine enterD Try.func27 rfl (by kernel_rfl) Try.ntmps27 rfl ?_
  refine C.seq <| C.region <| E.asg rfl rfl <| E.nil <| X.next <| C.seq <| C.seq <| C.region <| E.mv rfl rfl <| ?_
  refine E.call rfl rfl (hL) ?_
  rintro _ w1 ⟨rfl, x1⟩
  have hM := hM.ext x1
  try dsimp only [List.nil_append, List.cons_append, List.set_cons_zero, List.set_cons_succ, repl] at hM
  refine E.not rfl rfl <| E.nil <| X.next <| ?_
  refine C.cond rfl (fun hC0 => ?_) (fun hC0 => ?_)
  ·
    refine C.seq <| C.region <| E.asg rfl rfl <| E.nil <| X.next <| C.ret <| X.retT <| retD0 (fun a ha => res1 rfl rfl a ha) ?_
    exact ⟨rfl, hM.toExt⟩
  ·
    cases hC0

theorem TruncateN_ret (pv : Value) (n : Int) (w : World) (hL : Ret Try.prog 53 #[pv] w fun v w' => v = .bool false ∧ Ext w w') :
    Ret Try.prog 23 #[pv, i64 n] w fun v w' => v = i64 2 ∧ Ext w w' := by
  have hM := M.start w
  refine enterD Try.func23 rfl (by kernel_rfl) Try.ntmps23 rfl ?_
  refine C.seq <| C.region <| E.asg rfl rfl <| E.nil <| X.next <| C.seq <| C.seq <| C.region <| E.mv rfl rfl <| ?_
  refine E.call rfl rfl (hL) ?_
  rintro _ w1 ⟨rfl, x1⟩
  have hM := hM.ext x1
  try dsimp only [List.nil_append, List.cons_append, List.set_cons_zero, List.set_cons_succ, repl] at hM
  refine E.not rfl rfl <| E.nil <| X.next <| ?_
  refine C.cond rfl (fun hC0 => ?_) (fun hC0 => ?_)
  ·
    refine C.seq <| C.region <| E.asg rfl rfl <| E.nil <| X.next <| C.ret <| X.retT <| retD0 (fun a ha => res1 rfl rfl a ha) ?_
    exact ⟨rfl, hM.toExt⟩
  ·
    cases hC0

theorem CompactN_ret (pv q : Value) (w : World) (hL : Ret Try.prog 53 #[pv] w fun v w' => v = .bool false ∧ Ext w w') :
    Ret Try.prog 30 #[pv, q] w fun v w' => v = i64 2 ∧ Ext w w' := by
  have hM := M.start w
  refine enterD Try.func30 rfl (by kernel_rfl) Try.ntmps30 rfl ?_
  refine C.seq <| C.region <| E.asg rfl rfl <| E.nil <| X.next <| C.seq <| C.seq <| C.region <| E.mv rfl rfl <| ?_
  refine E.call rfl rfl (hL) ?_
  rintro _ w1 ⟨rfl, x1⟩
  have hM := hM.ext x1
  try dsimp only [List.nil_append, List.cons_append, List.set_cons_zero, List.set_cons_succ, repl] at hM
  refine E.not rfl rfl <| E.nil <| X.next <| ?_
  refine C.cond rfl (fun hC0 => ?_) (fun hC0 => ?_)
  ·
    refine C.seq <| C.region <| E.asg rfl rfl <| E.nil <| X.next <| C.ret <| X.retT <| retD0 (fun a ha => res1 rfl rfl a ha) ?_
    exact ⟨rfl, hM.toExt⟩
  ·
    cases hC0

theorem RecordsN_ret (pv : Value) (w : World) (hL : Ret Try.prog 53 #[pv] w fun v w' => v = .bool false ∧ Ext w w') :
    Ret Try.prog 24 #[pv] w fun v w' => v = nilS ∧ Ext w w' := by
  have hM := M.start w
  refine enterD Try.func24 rfl (by kernel_rfl) Try.ntmps24 rfl ?_
  refine C.seq <| C.region <| E.asg rfl rfl <| E.nil <| X.next <| C.seq <| C.seq <| C.region <| E.mv rfl rfl <| ?_
  refine E.call rfl rfl (hL) ?_
  rintro _ w1 ⟨rfl, x1⟩
  have hM := hM.ext x1
  try dsimp only [List.nil_append, List.cons_append, List.set_cons_zero, List.set_cons_succ, repl] at hM
  refine E.not rfl rfl <| E.nil <| X.next <| ?_
  refine C.cond rfl (fun hC0 => ?_) (fun hC0 => ?_)
  ·
    refine C.seq <| C.region <| E.asg rfl rfl <| E.nil <| X.next <| C.ret <| X.retT <| retD0 (fun a ha => res1 rfl rfl a ha) ?_
    exact ⟨rfl, hM.toExt⟩
  ·
    cases hC0

theorem BytesN_ret (pv : Value) (w : World) (hL : Ret Try.prog 53 #[pv] w fun v w' => v = .bool false ∧ Ext w w') :
    Ret Try.prog 22 #[pv] w fun v w' => v = nilS ∧ Ext w w' := by
  have hM := M.start w
  refine enterD Try.func22 rfl (by kernel_rfl) Try.ntmps22 rfl ?_
  refine C.seq <| C.region <| E.asg rfl rfl <| E.nil <| X.next <| C.seq <| C.seq <| C.region <| E.mv rfl rfl <| ?_
  refine E.call rfl rfl (hL) ?_
  rintro _ w1 ⟨rfl, x1⟩
  have hM := hM.ext x1
  try dsimp only [List.nil_append, List.cons_append, List.set_cons_zero, List.set_cons_succ, repl] at hM
  refine E.not rfl rfl <| E.nil <| X.next <| ?_
  refine C.cond rfl (fun hC0 => ?_) (fun hC0 => ?_)
  ·
    refine C.seq <| C.region <| E.asg rfl rfl <| E.nil <| X.next <| C.ret <| X.retT <| retD0 (fun a ha => res1 rfl rfl a ha) ?_
    exact ⟨rfl, hM.toExt⟩
  ·
    cases hC0

set_option maxHeartbeats 1000000 in
theorem JournalNobody_ret (p : Value) (l : List UInt8) (n : Int) (w : World) (hl : RdL u8 w p l) :
    Ret Try.prog 7 #[p, i64 n] w fun v w' => v = .bool true ∧ Ext w w' := by
  obtain ⟨xp, rfl⟩ : ∃ x : Hd, p = slv x := by obtain ⟨a, cap, hv, _⟩ := hl; exact ⟨(a, _, cap), hv⟩
  have hM := M.start w
  refine enter Try.func7 rfl (by kernel_rfl) Try.ntmps7 rfl ?_
  refine C.seq <| C.region <| E.asg rfl rfl <| E.nil <| X.next <| C.seq <| C.region <| E.asg rfl rfl <| E.nil <| X.next <| C.seq <| C.seq <| C.region <| E.mv rfl rfl <| ?_
  refine E.buildC (cs := [_, _, _, _, _]) [.int .i32 0, .int .u32 0, .bool false, .slice none 0 0, .int .i64 0] [] rfl rfl (by kernel_rfl) rfl ?_
  refine E.boxM hM rfl rfl rfl ?_
  intro b10 w0 hM
  try dsimp only [List.nil_append, List.cons_append, List.set_cons_zero, List.set_cons_succ, repl] at hM
  refine E.mkM (enc := Value.pointer) (e := 33) [none, some ⟨b10, 0, none⟩] hM rfl (fun _ => by kernel_rfl) rfl rfl rfl ?_
  intro v11 w1 hM
  try dsimp only [List.nil_append, List.cons_append, List.set_cons_zero, List.set_cons_succ, repl] at hM
  refine E.lenv rfl (Rd.shape (by first | exact hM.sl 0 rfl | exact hM.sl 1 rfl | exact hM.sl 2 rfl | exact hM.sl 3 rfl | exact hM.arg0 (by assumption) | exact hM.arg (by assumption) (by assumption) | assumption)) Try.underlying65 rfl ?_
  refine E.mv rfl rfl <| E.nil <| X.next <| C.block <| ?_

  refine C.loop1 [(0, _), (1, _), (11, _), (12, _)] rfl (fun (i : Nat) => [(13, i64 i)]) (fun (i : Nat) w' => M w (Nn) w' [Rg.blk b10 64 [.int .i32 0, .int .u32 0, .bool false, nilS, i64 0], Rg.sl Value.pointer 33 v11 [none, some ⟨b10, 0, none⟩]] ∧ i ≤ 2) (fun (i : Nat) => 2 - i) 0 ?_ ?_ ?_
  · exact Sub.cons rfl <| Sub.nil _
  · exact ⟨hM, Nat.zero_le _⟩
  rintro i w2 ⟨hM, hi⟩
  refine C.seq <| C.region <| E.bin rfl rfl rfl rfl <| E.nil <| X.next <| C.seq <| ?_
  refine C.cond' rfl (fun hC0 => ?_) (fun hC0 => ?_)
  ·
    have hi' : i < 2 := by
      have h0 : (i : Int) < 2 := hC0
      omega
    have hL : ∀ {w'}, M w Nn w' [Rg.blk b10 64 [.int .i32 0, .int .u32 0, .bool false, nilS, i64 0], Rg.sl Value.pointer 33 v11 [none, some ⟨b10, 0, none⟩]] → Ret Try.prog 53 #[Value.pointer (([none, some ⟨b10, 0, none⟩] : List (Option Addr))[i]'hi')] w' fun v w'' => v = .bool false ∧ Ext w' w'' := fun {w'} hM => by
      rcases (show i = 0 ∨ i = 1 by omega) with rfl | rfl
      · exact lockN_ret w'
      · exact lockZ_ret b10 w' (hM.sep1 0 rfl)
    refine C.skip <| X.next <| C.seq <| C.block <| C.seq <| C.region <| ?_
    refine E.get (k := i) rfl rfl (hM.sl 1 rfl) rfl hi' Try.underlying65 (by kernel_rfl) Try.underlying33 rfl rfl rfl ?_
    refine E.asg rfl rfl <| E.nil <| X.next <| ?_

    refine C.cut0 [(0, _), (1, _), (11, _), (12, _), (13, _)] rfl [(45, .bool false)] (fun w' => M w (Nn) w' [Rg.blk b10 64 [.int .i32 0, .int .u32 0, .bool false, nilS, i64 0], Rg.sl Value.pointer 33 v11 [none, some ⟨b10, 0, none⟩]]) ?_ ?_
    ·
      refine C.region <| E.mv rfl rfl <| E.mv rfl rfl <| ?_
      refine E.call rfl rfl (AppendN_ret _ _ _ (hL hM)) ?_
      rintro _ w2 ⟨rfl, x2⟩
      have hM := hM.ext x2
      try dsimp only [List.nil_append, List.cons_append, List.set_cons_zero, List.set_cons_succ, repl] at hM
      refine E.bin rfl rfl rfl rfl <| E.mv rfl rfl <| ?_
      refine E.split 21 rfl (fun g21 => ?_) (fun g21 => ?_)
      ·
        try simp only [decide_eq_true_eq, decide_eq_false_iff_not, ne_eq, Decidable.not_not, Bool.not_eq_true', Bool.not_eq_false'] at g21
        exact absurd g21 (by first | decide | (simp; done))
      ·
        try simp only [decide_eq_true_eq, decide_eq_false_iff_not, ne_eq, Decidable.not_not, Bool.not_eq_true', Bool.not_eq_false'] at g21
        refine E.on rfl rfl (E.mv rfl rfl ?_)
        refine E.on rfl rfl (E.mv rfl rfl ?_)
        refine E.on rfl rfl (E.call rfl rfl (TruncateN_ret _ n _ (hL hM)) ?_)
        rintro _ w3 ⟨rfl, x3⟩
        have hM := hM.ext x3
        try dsimp only [List.nil_append, List.cons_append, List.set_cons_zero, List.set_cons_succ, repl] at hM
        refine E.on rfl rfl (E.bin rfl rfl rfl rfl ?_)
        refine E.pick rfl rfl rfl <| E.mv rfl rfl <| ?_
        refine E.split 27 rfl (fun g27 => ?_) (fun g27 => ?_)
        ·
          try simp only [decide_eq_true_eq, decide_eq_false_iff_not, ne_eq, Decidable.not_not, Bool.not_eq_true', Bool.not_eq_false'] at g27
          exact absurd g27 (by first | decide | (simp; done))
        ·
          try simp only [decide_eq_true_eq, decide_eq_false_iff_not, ne_eq, Decidable.not_not, Bool.not_eq_true', Bool.not_eq_false'] at g27
          refine E.on rfl rfl (E.mv rfl rfl ?_)
          refine E.on rfl rfl (E.mv rfl rfl ?_)
          refine E.on rfl rfl (E.mk1M (enc := slv) xp hM rfl Try.underlying27 elem_Tsl_uint8 rfl rfl ?_)
          intro v30 w5 hM
          try dsimp only [List.nil_append, List.cons_append, List.set_cons_zero, List.set_cons_succ, repl] at hM
          have hM' := hM.pick [0, 1] (by decide)
          refine E.on rfl rfl (E.call rfl rfl (CompactN_ret _ _ _ (hL hM')) ?_)
          rintro _ w4 ⟨rfl, x4⟩
          have hM := hM.ext x4
          try dsimp only [List.nil_append, List.cons_append, List.set_cons_zero, List.set_cons_succ, repl] at hM
          refine E.on rfl rfl (E.bin rfl rfl rfl rfl ?_)
          refine E.pick rfl rfl rfl <| E.mv rfl rfl <| ?_
          refine E.split 34 rfl (fun g34 => ?_) (fun g34 => ?_)
          ·
            try simp only [decide_eq_true_eq, decide_eq_false_iff_not, ne_eq, Decidable.not_not, Bool.not_eq_true', Bool.not_eq_false'] at g34
            exact absurd g34 (by first | decide | (simp; done))
          ·
            try simp only [decide_eq_true_eq, decide_eq_false_iff_not, ne_eq, Decidable.not_not, Bool.not_eq_true', Bool.not_eq_false'] at g34
            refine E.on rfl rfl (E.mv rfl rfl ?_)
            refine E.on rfl rfl (E.call rfl rfl (RecordsN_ret _ _ (hL (hM.pick [0, 1] (by decide)))) ?_)
            rintro _ w5 ⟨rfl, x5⟩
            have hM := hM.ext x5
            try dsimp only [List.nil_append, List.cons_append, List.set_cons_zero, List.set_cons_succ, repl] at hM
            refine E.on rfl rfl (E.lenv rfl ⟨none, 0, rfl⟩ Try.underlying27 rfl ?_)
            refine E.on rfl rfl (E.bin rfl rfl rfl rfl ?_)
            refine E.pick rfl rfl rfl <| E.mv rfl rfl <| ?_
            refine E.split 40 rfl (fun g40 => ?_) (fun g40 => ?_)
            ·
              try simp only [decide_eq_true_eq, decide_eq_false_iff_not, ne_eq, Decidable.not_not, Bool.not_eq_true', Bool.not_eq_false'] at g40
              exact absurd g40 (by first | decide | (simp; done))
            ·
              try simp only [decide_eq_true_eq, decide_eq_false_iff_not, ne_eq, Decidable.not_not, Bool.not_eq_true', Bool.not_eq_false'] at g40
              refine E.on rfl rfl (E.mv rfl rfl ?_)
              refine E.on rfl rfl (E.call rfl rfl (BytesN_ret _ _ (hL (hM.pick [0, 1] (by decide)))) ?_)
              rintro _ w6 ⟨rfl, x6⟩
              have hM := hM.ext x6
              try dsimp only [List.nil_append, List.cons_append, List.set_cons_zero, List.set_cons_succ, repl] at hM
              refine E.on rfl rfl (E.lenv rfl ⟨none, 0, rfl⟩ Try.underlying22 rfl ?_)
              refine E.on rfl rfl (E.bin rfl rfl rfl rfl ?_)

              refine E.pick rfl rfl rfl <| E.nil <| X.join0  (Sub.cons (look_eq rfl (by simp)) <| Sub.nil _) rfl (hM.pick [0, 1] (by decide))
    rintro  w9 hM
    refine C.cond rfl (fun hC1 => ?_) (fun hC1 => ?_)
    ·
      cases hC1
    ·
      refine C.skip <| X.outN <| X.next <| C.region <| ?_
      refine E.add rfl rfl (by omega) rfl ?_

      refine E.mv rfl rfl <| E.nil <| X.again1 (i + 1) (Sub.cons rfl <| Sub.nil _) rfl ⟨hM, by omega⟩ (by omega)
  ·
    refine C.exit <| X.exitT <| X.exitT <| X.outE <| X.next <| C.seq <| C.region <| ?_
    refine E.call rfl rfl (alive_ret _) ?_
    rintro _ w7 ⟨rfl, x7⟩
    have hM := hM.ext x7
    try dsimp only [List.nil_append, List.cons_append, List.set_cons_zero, List.set_cons_succ, repl] at hM
    refine E.asg rfl rfl <| E.nil <| X.next <| C.ret <| ret1 rfl rfl ?_
    exact ⟨rfl, hM.toExt⟩

end Go.Proofs.Ytdcgmkoonanpgaa
