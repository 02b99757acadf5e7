/- Texts of the claim, laid together: Desp. -/
import Derived.Test.YtnnmebpahickhaaComponentsSymmetricTopMg17
/- components: Despeckle; Equal of the reference. -/
namespace Go.Proofs.Ytnnmebpahickhaa
set_option linter.unusedSimpArgs false
set_option linter.unusedVariables false
open Go.RowKit Sym Uf

set_option maxHeartbeats 2000000 in
theorem Despeckle_ret (W Ht : Int) (vd : Value) (dk : List Bool) (area : Int) (w : World) (hr : RdL Value.bool w vd dk) :
    Ret Try.prog 17 #[mat W Ht vd, i64 area] w fun v w' => MatAns (DespSp W Ht dk area) v w w' := by
  have hM := M.start w
  refine enter Try.func17 rfl (by kernel_rfl) Try.ntmps17 rfl ?_
  refine C.seq <| C.region <| ?_
  refine E.boxM hM rfl rfl rfl ?_
  intro b2 w0 hM
  try dsimp only [List.nil_append, List.cons_append, List.set_cons_zero, List.set_cons_succ, repl] at hM
  refine E.allocM (z := .agg #[.int .i64 0, .int .i64 0, .slice none 0 0]) (cs := [.int .i64 0, .int .i64 0, .slice none 0 0]) hM (by kernel_rfl) rfl rfl ?_
  intro b4 w1 hM
  try dsimp only [List.nil_append, List.cons_append, List.set_cons_zero, List.set_cons_succ, repl] at hM
  refine E.asg rfl rfl <| E.nil <| X.next <| C.seq <| C.seq <| C.region <| ?_
  refine E.loadA rfl Try.underlying24 rfl (by kernel_rfl) (by first | exact hM.bat 0 rfl | exact hM.bat 1 rfl | exact hM.bat 2 rfl | exact hM.bat 3 rfl | exact hM.bat 4 rfl | exact hM.bat 5 rfl | exact hM.bat 6 rfl | exact hM.bat 7 rfl) rfl ?_
  refine E.call rfl rfl (Check_ret W Ht vd dk.length _ hr.shape) ?_
  rintro _ w9 ⟨rfl, x9⟩
  have hM := hM.ext x9
  try dsimp only [List.nil_append, List.cons_append, List.set_cons_zero, List.set_cons_succ, repl] at hM
  refine E.asg rfl rfl <| E.nil <| X.next <| C.seq <| C.region <| E.mv rfl rfl <| E.bin rfl rfl rfl rfl <| E.nil <| X.next <| ?_
  refine C.cond' rfl (fun hC0 => ?_) (fun hC0 => ?_)
  ·
    have hno : ¬ okMat W Ht dk.length := fun h => by rw [if_pos h] at hC0; exact hC0 rfl
    rw [if_neg hno]
    refine C.seq <| C.region <| ?_
    refine E.buildC (cs := [_, _, _]) [.int .i64 0, .int .i64 0, .slice none 0 0] [] rfl rfl (by kernel_rfl) rfl ?_
    refine E.mv rfl rfl <| ?_
    first
      | refine E.storeAM 0 hM rfl rfl rfl (by kernel_rfl) rfl ?_ ?_
      | refine E.storeAM 1 hM rfl rfl rfl (by kernel_rfl) rfl ?_ ?_
      | refine E.storeAM 2 hM rfl rfl rfl (by kernel_rfl) rfl ?_ ?_
      | refine E.storeAM 3 hM rfl rfl rfl (by kernel_rfl) rfl ?_ ?_
      | refine E.storeAM 4 hM rfl rfl rfl (by kernel_rfl) rfl ?_ ?_
      | refine E.storeAM 5 hM rfl rfl rfl (by kernel_rfl) rfl ?_ ?_
      | refine E.storeAM 6 hM rfl rfl rfl (by kernel_rfl) rfl ?_ ?_
      | refine E.storeAM 7 hM rfl rfl rfl (by kernel_rfl) rfl ?_ ?_
    · exact ones (by first | rfl | exact (hM.sl 0 rfl).one | exact (hM.sl 1 rfl).one | exact (hM.sl 2 rfl).one | exact (hM.sl 3 rfl).one | exact (hM.sl 4 rfl).one | exact (hM.sl 5 rfl).one | exact (hM.sl 6 rfl).one | exact (hM.sl 7 rfl).one | exact (hM.slF 0 rfl).one | exact (hM.slF 1 rfl).one | exact (hM.slF 2 rfl).one | exact (hM.slF 3 rfl).one | exact (hM.slF 4 rfl).one | exact (hM.slF 5 rfl).one | exact (hM.slF 6 rfl).one | exact (hM.slF 7 rfl).one | exact RdL.one (by assumption) | exact RdF.one (by assumption) | assumption) <| ones (by first | rfl | exact (hM.sl 0 rfl).one | exact (hM.sl 1 rfl).one | exact (hM.sl 2 rfl).one | exact (hM.sl 3 rfl).one | exact (hM.sl 4 rfl).one | exact (hM.sl 5 rfl).one | exact (hM.sl 6 rfl).one | exact (hM.sl 7 rfl).one | exact (hM.slF 0 rfl).one | exact (hM.slF 1 rfl).one | exact (hM.slF 2 rfl).one | exact (hM.slF 3 rfl).one | exact (hM.slF 4 rfl).one | exact (hM.slF 5 rfl).one | exact (hM.slF 6 rfl).one | exact (hM.slF 7 rfl).one | exact RdL.one (by assumption) | exact RdF.one (by assumption) | assumption) <| ones (by first | rfl | exact (hM.sl 0 rfl).one | exact (hM.sl 1 rfl).one | exact (hM.sl 2 rfl).one | exact (hM.sl 3 rfl).one | exact (hM.sl 4 rfl).one | exact (hM.sl 5 rfl).one | exact (hM.sl 6 rfl).one | exact (hM.sl 7 rfl).one | exact (hM.slF 0 rfl).one | exact (hM.slF 1 rfl).one | exact (hM.slF 2 rfl).one | exact (hM.slF 3 rfl).one | exact (hM.slF 4 rfl).one | exact (hM.slF 5 rfl).one | exact (hM.slF 6 rfl).one | exact (hM.slF 7 rfl).one | exact RdL.one (by assumption) | exact RdF.one (by assumption) | assumption) <| ones_nil
    intro w3 hM
    try dsimp only [List.nil_append, List.cons_append, List.set_cons_zero, List.set_cons_succ, repl] at hM
    refine E.asg rfl rfl <| E.nil <| X.next <| C.ret <| X.retT <| retAT rfl rfl rfl Try.underlying24 rfl (by first | exact hM.blk 0 rfl | exact hM.blk 1 rfl | exact hM.blk 2 rfl | exact hM.blk 3 rfl | exact hM.blk 4 rfl | exact hM.blk 5 rfl | exact hM.blk 6 rfl | exact hM.blk 7 rfl) (by kernel_rfl) ?_
    exact ⟨_, _, _, [], _, rfl, .inl ⟨hno, rfl, rfl, rfl, rfl⟩, (hM.nil Value.bool 4).pick [2] (by decide)⟩
  ·
    have hok : okMat W Ht dk.length := Decidable.byContradiction fun h => by rw [if_neg h] at hC0; exact hC0 (by decide)
    refine C.skip <| X.next <| C.seq <| C.seq <| C.region <| E.mv rfl rfl <| E.bin rfl rfl rfl rfl <| E.nil <| X.next <| ?_
    refine C.cond' rfl (fun hC1 => ?_) (fun hC1 => ?_)
    ·
      refine C.seq <| C.region <| ?_
      refine E.buildC (cs := [_, _, _]) [.int .i64 0, .int .i64 0, .slice none 0 0] [] rfl rfl (by kernel_rfl) rfl ?_
      first
        | refine E.storeAM 0 hM rfl rfl rfl (by kernel_rfl) rfl ?_ ?_
        | refine E.storeAM 1 hM rfl rfl rfl (by kernel_rfl) rfl ?_ ?_
        | refine E.storeAM 2 hM rfl rfl rfl (by kernel_rfl) rfl ?_ ?_
        | refine E.storeAM 3 hM rfl rfl rfl (by kernel_rfl) rfl ?_ ?_
        | refine E.storeAM 4 hM rfl rfl rfl (by kernel_rfl) rfl ?_ ?_
        | refine E.storeAM 5 hM rfl rfl rfl (by kernel_rfl) rfl ?_ ?_
        | refine E.storeAM 6 hM rfl rfl rfl (by kernel_rfl) rfl ?_ ?_
        | refine E.storeAM 7 hM rfl rfl rfl (by kernel_rfl) rfl ?_ ?_
      · exact ones (by first | rfl | exact (hM.sl 0 rfl).one | exact (hM.sl 1 rfl).one | exact (hM.sl 2 rfl).one | exact (hM.sl 3 rfl).one | exact (hM.sl 4 rfl).one | exact (hM.sl 5 rfl).one | exact (hM.sl 6 rfl).one | exact (hM.sl 7 rfl).one | exact (hM.slF 0 rfl).one | exact (hM.slF 1 rfl).one | exact (hM.slF 2 rfl).one | exact (hM.slF 3 rfl).one | exact (hM.slF 4 rfl).one | exact (hM.slF 5 rfl).one | exact (hM.slF 6 rfl).one | exact (hM.slF 7 rfl).one | exact RdL.one (by assumption) | exact RdF.one (by assumption) | assumption) <| ones (by first | rfl | exact (hM.sl 0 rfl).one | exact (hM.sl 1 rfl).one | exact (hM.sl 2 rfl).one | exact (hM.sl 3 rfl).one | exact (hM.sl 4 rfl).one | exact (hM.sl 5 rfl).one | exact (hM.sl 6 rfl).one | exact (hM.sl 7 rfl).one | exact (hM.slF 0 rfl).one | exact (hM.slF 1 rfl).one | exact (hM.slF 2 rfl).one | exact (hM.slF 3 rfl).one | exact (hM.slF 4 rfl).one | exact (hM.slF 5 rfl).one | exact (hM.slF 6 rfl).one | exact (hM.slF 7 rfl).one | exact RdL.one (by assumption) | exact RdF.one (by assumption) | assumption) <| ones (by first | rfl | exact (hM.sl 0 rfl).one | exact (hM.sl 1 rfl).one | exact (hM.sl 2 rfl).one | exact (hM.sl 3 rfl).one | exact (hM.sl 4 rfl).one | exact (hM.sl 5 rfl).one | exact (hM.sl 6 rfl).one | exact (hM.sl 7 rfl).one | exact (hM.slF 0 rfl).one | exact (hM.slF 1 rfl).one | exact (hM.slF 2 rfl).one | exact (hM.slF 3 rfl).one | exact (hM.slF 4 rfl).one | exact (hM.slF 5 rfl).one | exact (hM.slF 6 rfl).one | exact (hM.slF 7 rfl).one | exact RdL.one (by assumption) | exact RdF.one (by assumption) | assumption) <| ones_nil
      intro w4 hM
      try dsimp only [List.nil_append, List.cons_append, List.set_cons_zero, List.set_cons_succ, repl] at hM
      refine E.asg rfl rfl <| E.nil <| X.next <| C.ret <| X.retT <| retAT rfl rfl rfl Try.underlying24 rfl (by first | exact hM.blk 0 rfl | exact hM.blk 1 rfl | exact hM.blk 2 rfl | exact hM.blk 3 rfl | exact hM.blk 4 rfl | exact hM.blk 5 rfl | exact hM.blk 6 rfl | exact hM.blk 7 rfl) (by kernel_rfl) ?_
      exact ⟨_, _, _, [], _, rfl, .inr (.inl ⟨hok, hC1, rfl, rfl, rfl, rfl⟩), (hM.nil Value.bool 4).pick [2] (by decide)⟩
    ·
      have ha0 : 0 ≤ area := by omega
      refine C.skip <| X.next <| C.seq <| C.region <| ?_
      refine E.loadA rfl Try.underlying24 rfl (by kernel_rfl) (by first | exact hM.bat 0 rfl | exact hM.bat 1 rfl | exact hM.bat 2 rfl | exact hM.bat 3 rfl | exact hM.bat 4 rfl | exact hM.bat 5 rfl | exact hM.bat 6 rfl | exact hM.bat 7 rfl) rfl ?_
      refine E.call rfl rfl (Label_ret W Ht vd dk true _ (hM.arg0 hr)) ?_
      rintro _ w10 ⟨hA, x10⟩
      obtain ⟨va, vb, lab, bl, e, rfl, m, hA⟩ := hA.uni x10
      have hM := hM.call m
      try dsimp only [List.nil_append, List.cons_append, List.set_cons_zero, List.set_cons_succ, repl] at hM
      refine E.mv rfl rfl <| E.ext rfl rfl rfl <| E.ext rfl rfl rfl <| E.ext rfl rfl rfl <| E.asg rfl rfl <| E.asg rfl rfl <| E.asg rfl rfl <| E.nil <| X.next <| C.seq <| C.seq <| C.region <| E.mv rfl rfl <| E.bin rfl rfl rfl rfl <| E.nil <| X.next <| ?_
      refine C.cond' rfl (fun hC2 => ?_) (fun hC2 => ?_)
      ·
        have hA' : 65536 < nf (DD dk true) (RR W.toNat true dk true) dk.length ∧ e = 4 := by
          rcases hA with ⟨h, _⟩ | ⟨_, h, he, _⟩ | ⟨_, _, h, _⟩
          · exact (h hok).elim
          · exact ⟨h, he⟩
          · omega
        obtain ⟨hlong, rfl⟩ := hA'
        refine C.seq <| C.region <| ?_
        refine E.buildC (cs := [_, _, _]) [.int .i64 0, .int .i64 0, .slice none 0 0] [] rfl rfl (by kernel_rfl) rfl ?_
        refine E.mv rfl rfl <| ?_
        first
          | refine E.storeAM 0 hM rfl rfl rfl (by kernel_rfl) rfl ?_ ?_
          | refine E.storeAM 1 hM rfl rfl rfl (by kernel_rfl) rfl ?_ ?_
          | refine E.storeAM 2 hM rfl rfl rfl (by kernel_rfl) rfl ?_ ?_
          | refine E.storeAM 3 hM rfl rfl rfl (by kernel_rfl) rfl ?_ ?_
          | refine E.storeAM 4 hM rfl rfl rfl (by kernel_rfl) rfl ?_ ?_
          | refine E.storeAM 5 hM rfl rfl rfl (by kernel_rfl) rfl ?_ ?_
          | refine E.storeAM 6 hM rfl rfl rfl (by kernel_rfl) rfl ?_ ?_
          | refine E.storeAM 7 hM rfl rfl rfl (by kernel_rfl) rfl ?_ ?_
        · exact ones (by first | rfl | exact (hM.sl 0 rfl).one | exact (hM.sl 1 rfl).one | exact (hM.sl 2 rfl).one | exact (hM.sl 3 rfl).one | exact (hM.sl 4 rfl).one | exact (hM.sl 5 rfl).one | exact (hM.sl 6 rfl).one | exact (hM.sl 7 rfl).one | exact (hM.slF 0 rfl).one | exact (hM.slF 1 rfl).one | exact (hM.slF 2 rfl).one | exact (hM.slF 3 rfl).one | exact (hM.slF 4 rfl).one | exact (hM.slF 5 rfl).one | exact (hM.slF 6 rfl).one | exact (hM.slF 7 rfl).one | exact RdL.one (by assumption) | exact RdF.one (by assumption) | assumption) <| ones (by first | rfl | exact (hM.sl 0 rfl).one | exact (hM.sl 1 rfl).one | exact (hM.sl 2 rfl).one | exact (hM.sl 3 rfl).one | exact (hM.sl 4 rfl).one | exact (hM.sl 5 rfl).one | exact (hM.sl 6 rfl).one | exact (hM.sl 7 rfl).one | exact (hM.slF 0 rfl).one | exact (hM.slF 1 rfl).one | exact (hM.slF 2 rfl).one | exact (hM.slF 3 rfl).one | exact (hM.slF 4 rfl).one | exact (hM.slF 5 rfl).one | exact (hM.slF 6 rfl).one | exact (hM.slF 7 rfl).one | exact RdL.one (by assumption) | exact RdF.one (by assumption) | assumption) <| ones (by first | rfl | exact (hM.sl 0 rfl).one | exact (hM.sl 1 rfl).one | exact (hM.sl 2 rfl).one | exact (hM.sl 3 rfl).one | exact (hM.sl 4 rfl).one | exact (hM.sl 5 rfl).one | exact (hM.sl 6 rfl).one | exact (hM.sl 7 rfl).one | exact (hM.slF 0 rfl).one | exact (hM.slF 1 rfl).one | exact (hM.slF 2 rfl).one | exact (hM.slF 3 rfl).one | exact (hM.slF 4 rfl).one | exact (hM.slF 5 rfl).one | exact (hM.slF 6 rfl).one | exact (hM.slF 7 rfl).one | exact RdL.one (by assumption) | exact RdF.one (by assumption) | assumption) <| ones_nil
        intro w6 hM
        try dsimp only [List.nil_append, List.cons_append, List.set_cons_zero, List.set_cons_succ, repl] at hM
        refine E.asg rfl rfl <| E.nil <| X.next <| C.ret <| X.retT <| retAT rfl rfl rfl Try.underlying24 rfl (by first | exact hM.blk 0 rfl | exact hM.blk 1 rfl | exact hM.blk 2 rfl | exact hM.blk 3 rfl | exact hM.blk 4 rfl | exact hM.blk 5 rfl | exact hM.blk 6 rfl | exact hM.blk 7 rfl) (by kernel_rfl) ?_
        exact ⟨_, _, _, [], _, rfl, .inr (.inr (.inl ⟨hok, ha0, hlong, rfl, rfl, rfl, rfl⟩)), (hM.nil Value.bool 4).pick [4] (by decide)⟩
      ·
        have hA' : nf (DD dk true) (RR W.toNat true dk true) dk.length ≤ 65536 ∧ e = 0 ∧ Labelled (DD dk true) (RR W.toNat true dk true) W.toNat dk.length lab bl := by
          rcases hA with ⟨h, _⟩ | ⟨_, _, h, _⟩ | ⟨_, h⟩
          · exact (h hok).elim
          · omega
          · exact h
        obtain ⟨hfew, rfl, hL⟩ := hA'
        obtain ⟨a, b, rfl, rfl, hW, hH, hn, hn0⟩ := hok.nat
        have hll := hL.len
        refine C.skip <| X.next <| ?_

        refine C.cut2 [(1, _), (4, _), (7, _), (8, _)] rfl (fun (b10 : Nat) (vo : Value) => [(10, pv b10)]) (fun (b10 : Nat) (vo : Value) w' => M w (Nn) w' [Rg.blk b2 24 [i64 a, i64 b, vd], Rg.blk b4 24 [i64 0, i64 0, nilS], Rg.sl i64 3 va lab, Rg.slF Bl.cells 7 38 vb bl, Rg.blk b10 24 [i64 a, i64 b, vo], Rg.sl Value.bool 4 vo (List.replicate dk.length false)]) ?_ ?_
        ·
          refine C.heldE (by kernel_rfl) fun wh7 hwh7 _ => ?_
          have hS := hwh7
          have hM0 := hM
          have hM := M.ofExt hwh7
          refine H.takeV 0 rfl rfl (by kernel_rfl) (by kernel_rfl) (by kernel_rfl) hS (Y.fld (o := 0) (sz := 0) rfl Try.underlying24 rfl rfl (by kernel_rfl)) (fun w' hS => by have hM := hM0.ext hS; exact Y.fld (o := 0) (sz := 0) rfl Try.underlying24 rfl rfl (by kernel_rfl)) rfl ?_
          refine H.takeV 2 rfl rfl (by kernel_rfl) (by kernel_rfl) (by kernel_rfl) hS (Y.fld (o := 1) (sz := 0) rfl Try.underlying24 rfl rfl (by kernel_rfl)) (fun w' hS => by have hM := hM0.ext hS; exact Y.fld (o := 1) (sz := 0) rfl Try.underlying24 rfl rfl (by kernel_rfl)) rfl ?_
          refine H.takeV 4 rfl rfl (by kernel_rfl) (by kernel_rfl) (by kernel_rfl) hS (Y.fld (o := 2) (sz := 0) rfl Try.underlying24 rfl rfl (by kernel_rfl)) (fun w' hS => by have hM := hM0.ext hS; exact Y.fld (o := 2) (sz := 0) rfl Try.underlying24 rfl rfl (by kernel_rfl)) rfl ?_
          refine H.takeV 1 rfl rfl (by kernel_rfl) (by kernel_rfl) (by kernel_rfl) hS (Y.load rfl Try.underlying3 rfl (by first | exact (hM0.ext hS).bcell 0 rfl rfl | exact (hM0.ext hS).bcell 1 rfl rfl | exact (hM0.ext hS).bcell 2 rfl rfl | exact (hM0.ext hS).bcell 3 rfl rfl | exact (hM0.ext hS).bcell 4 rfl rfl | exact (hM0.ext hS).bcell 5 rfl rfl | exact (hM0.ext hS).bcell 6 rfl rfl | exact (hM0.ext hS).bcell 7 rfl rfl)) (fun w' hS => by have hM := hM0.ext hS; exact Y.load rfl Try.underlying3 rfl (by first | exact hM.bcell 0 rfl rfl | exact hM.bcell 1 rfl rfl | exact hM.bcell 2 rfl rfl | exact hM.bcell 3 rfl rfl | exact hM.bcell 4 rfl rfl | exact hM.bcell 5 rfl rfl | exact hM.bcell 6 rfl rfl | exact hM.bcell 7 rfl rfl)) rfl ?_
          refine H.takeV 3 rfl rfl (by kernel_rfl) (by kernel_rfl) (by kernel_rfl) hS (Y.load rfl Try.underlying3 rfl (by first | exact (hM0.ext hS).bcell 0 rfl rfl | exact (hM0.ext hS).bcell 1 rfl rfl | exact (hM0.ext hS).bcell 2 rfl rfl | exact (hM0.ext hS).bcell 3 rfl rfl | exact (hM0.ext hS).bcell 4 rfl rfl | exact (hM0.ext hS).bcell 5 rfl rfl | exact (hM0.ext hS).bcell 6 rfl rfl | exact (hM0.ext hS).bcell 7 rfl rfl)) (fun w' hS => by have hM := hM0.ext hS; exact Y.load rfl Try.underlying3 rfl (by first | exact hM.bcell 0 rfl rfl | exact hM.bcell 1 rfl rfl | exact hM.bcell 2 rfl rfl | exact hM.bcell 3 rfl rfl | exact hM.bcell 4 rfl rfl | exact hM.bcell 5 rfl rfl | exact hM.bcell 6 rfl rfl | exact hM.bcell 7 rfl rfl)) rfl ?_
          refine H.takeV 5 rfl rfl (by kernel_rfl) (by kernel_rfl) (by kernel_rfl) hS (Y.load rfl Try.underlying22 rfl (by first | exact (hM0.ext hS).bcell 0 rfl rfl | exact (hM0.ext hS).bcell 1 rfl rfl | exact (hM0.ext hS).bcell 2 rfl rfl | exact (hM0.ext hS).bcell 3 rfl rfl | exact (hM0.ext hS).bcell 4 rfl rfl | exact (hM0.ext hS).bcell 5 rfl rfl | exact (hM0.ext hS).bcell 6 rfl rfl | exact (hM0.ext hS).bcell 7 rfl rfl)) (fun w' hS => by have hM := hM0.ext hS; exact Y.load rfl Try.underlying22 rfl (by first | exact hM.bcell 0 rfl rfl | exact hM.bcell 1 rfl rfl | exact hM.bcell 2 rfl rfl | exact hM.bcell 3 rfl rfl | exact hM.bcell 4 rfl rfl | exact hM.bcell 5 rfl rfl | exact hM.bcell 6 rfl rfl | exact hM.bcell 7 rfl rfl)) rfl ?_
          refine H.takeV 6 rfl rfl (by kernel_rfl) (by kernel_rfl) (by kernel_rfl) hS (Y.lenv rfl (Rd.shape (by first | exact (hM0.ext hS).sl 0 rfl | exact (hM0.ext hS).sl 1 rfl | exact (hM0.ext hS).sl 2 rfl | exact (hM0.ext hS).sl 3 rfl | exact (hM0.ext hS).sl 4 rfl | exact (hM0.ext hS).sl 5 rfl | exact (hM0.ext hS).sl 6 rfl | exact (hM0.ext hS).sl 7 rfl | exact (hM0.ext hS).arg0 (by assumption) | exact (hM0.ext hS).arg (by assumption) (by assumption) | assumption)) Try.underlying22) (fun w' hS => by have hM := hM0.ext hS; exact Y.lenv rfl (Rd.shape (by first | exact hM.sl 0 rfl | exact hM.sl 1 rfl | exact hM.sl 2 rfl | exact hM.sl 3 rfl | exact hM.sl 4 rfl | exact hM.sl 5 rfl | exact hM.sl 6 rfl | exact hM.sl 7 rfl | exact hM.arg0 (by assumption) | exact hM.arg (by assumption) (by assumption) | assumption)) Try.underlying22) rfl ?_
          refine H.two 7 9 rfl rfl (by kernel_rfl) ?_ ?_
          ·
            refine E.makeM (by_ := 1) (enc := Value.bool) false hM rfl Try.underlying22 (by kernel_rfl) rfl (by first | omega | (simp only [List.length_replicate, List.length_append, List.length_set, List.length_cons, List.length_nil, List.length_map, List.length_range, List.length_take, List.length_drop, List.length_zipWith] at *; omega)) (by first | omega | (simp only [List.length_replicate, List.length_append, List.length_set, List.length_cons, List.length_nil, List.length_map, List.length_range, List.length_take, List.length_drop, List.length_zipWith] at *; omega)) rfl ?_
            intro v39 w8 hM
            try dsimp only [List.nil_append, List.cons_append, List.set_cons_zero, List.set_cons_succ, repl] at hM
            have hS := hM.toExt
            refine H.back hS ?_
            obtain ⟨c1, c2, rfl⟩ : ∃ c1 c2, v39 = .slice c1 dk.length c2 := by
              first
                | exact (by simpa using Rd.shape (hM.sl 0 rfl))
                | exact (by simpa using Rd.shape (hM.sl 1 rfl))
            refine H.take 8 rfl rfl (by kernel_rfl) (by kernel_rfl) (by kernel_rfl) hS (fun w' hS => by have hM := hM0.ext hS; exact Y.buildC (cs := [_, _, _]) [.int .i64 0, .int .i64 0, .slice none 0 0] [0, 1, 2] rfl rfl (by kernel_rfl)) rfl ?_
            refine H.only 9 rfl (by kernel_rfl) ?_
            refine E.allocM (z := .agg #[.int .i64 0, .int .i64 0, .slice none 0 0]) (cs := [.int .i64 0, .int .i64 0, .slice none 0 0]) hM (by kernel_rfl) rfl rfl ?_
            intro b10 w9 hM
            try dsimp only [List.nil_append, List.cons_append, List.set_cons_zero, List.set_cons_succ, repl] at hM
            have hS := hM.toExt
            refine H.back hS ?_
            refine H.only 10 rfl (by kernel_rfl) ?_
            first
              | refine E.storeAM 0 hM rfl rfl rfl (by kernel_rfl) rfl ?_ ?_
              | refine E.storeAM 1 hM rfl rfl rfl (by kernel_rfl) rfl ?_ ?_
              | refine E.storeAM 2 hM rfl rfl rfl (by kernel_rfl) rfl ?_ ?_
              | refine E.storeAM 3 hM rfl rfl rfl (by kernel_rfl) rfl ?_ ?_
              | refine E.storeAM 4 hM rfl rfl rfl (by kernel_rfl) rfl ?_ ?_
              | refine E.storeAM 5 hM rfl rfl rfl (by kernel_rfl) rfl ?_ ?_
              | refine E.storeAM 6 hM rfl rfl rfl (by kernel_rfl) rfl ?_ ?_
              | refine E.storeAM 7 hM rfl rfl rfl (by kernel_rfl) rfl ?_ ?_
            · exact ones (by first | rfl | exact (hM.sl 0 rfl).one | exact (hM.sl 1 rfl).one | exact (hM.sl 2 rfl).one | exact (hM.sl 3 rfl).one | exact (hM.sl 4 rfl).one | exact (hM.sl 5 rfl).one | exact (hM.sl 6 rfl).one | exact (hM.sl 7 rfl).one | exact (hM.slF 0 rfl).one | exact (hM.slF 1 rfl).one | exact (hM.slF 2 rfl).one | exact (hM.slF 3 rfl).one | exact (hM.slF 4 rfl).one | exact (hM.slF 5 rfl).one | exact (hM.slF 6 rfl).one | exact (hM.slF 7 rfl).one | exact RdL.one (by assumption) | exact RdF.one (by assumption) | assumption) <| ones (by first | rfl | exact (hM.sl 0 rfl).one | exact (hM.sl 1 rfl).one | exact (hM.sl 2 rfl).one | exact (hM.sl 3 rfl).one | exact (hM.sl 4 rfl).one | exact (hM.sl 5 rfl).one | exact (hM.sl 6 rfl).one | exact (hM.sl 7 rfl).one | exact (hM.slF 0 rfl).one | exact (hM.slF 1 rfl).one | exact (hM.slF 2 rfl).one | exact (hM.slF 3 rfl).one | exact (hM.slF 4 rfl).one | exact (hM.slF 5 rfl).one | exact (hM.slF 6 rfl).one | exact (hM.slF 7 rfl).one | exact RdL.one (by assumption) | exact RdF.one (by assumption) | assumption) <| ones (by first | rfl | exact (hM.sl 0 rfl).one | exact (hM.sl 1 rfl).one | exact (hM.sl 2 rfl).one | exact (hM.sl 3 rfl).one | exact (hM.sl 4 rfl).one | exact (hM.sl 5 rfl).one | exact (hM.sl 6 rfl).one | exact (hM.sl 7 rfl).one | exact (hM.slF 0 rfl).one | exact (hM.slF 1 rfl).one | exact (hM.slF 2 rfl).one | exact (hM.slF 3 rfl).one | exact (hM.slF 4 rfl).one | exact (hM.slF 5 rfl).one | exact (hM.slF 6 rfl).one | exact (hM.slF 7 rfl).one | exact RdL.one (by assumption) | exact RdF.one (by assumption) | assumption) <| ones_nil
            intro w10 hM
            try dsimp only [List.nil_append, List.cons_append, List.set_cons_zero, List.set_cons_succ, repl] at hM
            have hS := hM.toExt
            refine H.back hS ?_
            refine H.done (by kernel_rfl) ?_
            have hM := hM0.call hM

            refine X.join2 b10 _ (Sub.cons rfl <| Sub.nil _) rfl (hM.pick [0, 1, 2, 3, 5, 4] (by decide))
          ·
            refine E.allocM (z := .agg #[.int .i64 0, .int .i64 0, .slice none 0 0]) (cs := [.int .i64 0, .int .i64 0, .slice none 0 0]) hM (by kernel_rfl) rfl rfl ?_
            intro b10 w11 hM
            try dsimp only [List.nil_append, List.cons_append, List.set_cons_zero, List.set_cons_succ, repl] at hM
            have hS := hM.toExt
            refine H.back hS ?_
            refine H.only 7 rfl (by kernel_rfl) ?_
            refine E.makeM (by_ := 1) (enc := Value.bool) false hM rfl Try.underlying22 (by kernel_rfl) rfl (by first | omega | (simp only [List.length_replicate, List.length_append, List.length_set, List.length_cons, List.length_nil, List.length_map, List.length_range, List.length_take, List.length_drop, List.length_zipWith] at *; omega)) (by first | omega | (simp only [List.length_replicate, List.length_append, List.length_set, List.length_cons, List.length_nil, List.length_map, List.length_range, List.length_take, List.length_drop, List.length_zipWith] at *; omega)) rfl ?_
            intro v39 w12 hM
            try dsimp only [List.nil_append, List.cons_append, List.set_cons_zero, List.set_cons_succ, repl] at hM
            have hS := hM.toExt
            refine H.back hS ?_
            obtain ⟨c1, c2, rfl⟩ : ∃ c1 c2, v39 = .slice c1 dk.length c2 := by
              first
                | exact (by simpa using Rd.shape (hM.sl 0 rfl))
                | exact (by simpa using Rd.shape (hM.sl 1 rfl))
            refine H.take 8 rfl rfl (by kernel_rfl) (by kernel_rfl) (by kernel_rfl) hS (fun w' hS => by have hM := hM0.ext hS; exact Y.buildC (cs := [_, _, _]) [.int .i64 0, .int .i64 0, .slice none 0 0] [0, 1, 2] rfl rfl (by kernel_rfl)) rfl ?_
            refine H.only 10 rfl (by kernel_rfl) ?_
            first
              | refine E.storeAM 0 hM rfl rfl rfl (by kernel_rfl) rfl ?_ ?_
              | refine E.storeAM 1 hM rfl rfl rfl (by kernel_rfl) rfl ?_ ?_
              | refine E.storeAM 2 hM rfl rfl rfl (by kernel_rfl) rfl ?_ ?_
              | refine E.storeAM 3 hM rfl rfl rfl (by kernel_rfl) rfl ?_ ?_
              | refine E.storeAM 4 hM rfl rfl rfl (by kernel_rfl) rfl ?_ ?_
              | refine E.storeAM 5 hM rfl rfl rfl (by kernel_rfl) rfl ?_ ?_
              | refine E.storeAM 6 hM rfl rfl rfl (by kernel_rfl) rfl ?_ ?_
              | refine E.storeAM 7 hM rfl rfl rfl (by kernel_rfl) rfl ?_ ?_
            · exact ones (by first | rfl | exact (hM.sl 0 rfl).one | exact (hM.sl 1 rfl).one | exact (hM.sl 2 rfl).one | exact (hM.sl 3 rfl).one | exact (hM.sl 4 rfl).one | exact (hM.sl 5 rfl).one | exact (hM.sl 6 rfl).one | exact (hM.sl 7 rfl).one | exact (hM.slF 0 rfl).one | exact (hM.slF 1 rfl).one | exact (hM.slF 2 rfl).one | exact (hM.slF 3 rfl).one | exact (hM.slF 4 rfl).one | exact (hM.slF 5 rfl).one | exact (hM.slF 6 rfl).one | exact (hM.slF 7 rfl).one | exact RdL.one (by assumption) | exact RdF.one (by assumption) | assumption) <| ones (by first | rfl | exact (hM.sl 0 rfl).one | exact (hM.sl 1 rfl).one | exact (hM.sl 2 rfl).one | exact (hM.sl 3 rfl).one | exact (hM.sl 4 rfl).one | exact (hM.sl 5 rfl).one | exact (hM.sl 6 rfl).one | exact (hM.sl 7 rfl).one | exact (hM.slF 0 rfl).one | exact (hM.slF 1 rfl).one | exact (hM.slF 2 rfl).one | exact (hM.slF 3 rfl).one | exact (hM.slF 4 rfl).one | exact (hM.slF 5 rfl).one | exact (hM.slF 6 rfl).one | exact (hM.slF 7 rfl).one | exact RdL.one (by assumption) | exact RdF.one (by assumption) | assumption) <| ones (by first | rfl | exact (hM.sl 0 rfl).one | exact (hM.sl 1 rfl).one | exact (hM.sl 2 rfl).one | exact (hM.sl 3 rfl).one | exact (hM.sl 4 rfl).one | exact (hM.sl 5 rfl).one | exact (hM.sl 6 rfl).one | exact (hM.sl 7 rfl).one | exact (hM.slF 0 rfl).one | exact (hM.slF 1 rfl).one | exact (hM.slF 2 rfl).one | exact (hM.slF 3 rfl).one | exact (hM.slF 4 rfl).one | exact (hM.slF 5 rfl).one | exact (hM.slF 6 rfl).one | exact (hM.slF 7 rfl).one | exact RdL.one (by assumption) | exact RdF.one (by assumption) | assumption) <| ones_nil
            intro w13 hM
            try dsimp only [List.nil_append, List.cons_append, List.set_cons_zero, List.set_cons_succ, repl] at hM
            have hS := hM.toExt
            refine H.back hS ?_
            refine H.done (by kernel_rfl) ?_
            have hM := hM0.call hM

            refine X.join2 b10 _ (Sub.cons rfl <| Sub.nil _) rfl (hM.pick [0, 1, 2, 3, 4, 5] (by decide))
        rintro b10 vo w14 hM
        refine C.seq <| C.seq <| C.region <| E.mv rfl rfl <| ?_
        refine E.lenv rfl (Rd.shape (by first | exact hM.sl 0 rfl | exact hM.sl 1 rfl | exact hM.sl 2 rfl | exact hM.sl 3 rfl | exact hM.sl 4 rfl | exact hM.sl 5 rfl | exact hM.sl 6 rfl | exact hM.sl 7 rfl | exact hM.arg0 (by assumption) | exact hM.arg (by assumption) (by assumption) | assumption)) Try.underlying27 rfl ?_
        refine E.mv rfl rfl <| E.nil <| X.next <| C.block <| ?_

        refine C.loop1 [(1, _), (4, _), (8, _), (10, _), (41, _), (42, _)] rfl (fun (i : Nat) => [(43, i64 i)]) (fun (i : Nat) w' => M w (Nn) w' [Rg.blk b2 24 [i64 a, i64 b, vd], Rg.blk b4 24 [i64 0, i64 0, nilS], Rg.sl i64 3 va lab, Rg.slF Bl.cells 7 38 vb bl, Rg.blk b10 24 [i64 a, i64 b, vo], Rg.sl Value.bool 4 vo (tab i (despf dk lab bl area) ++ List.replicate (dk.length - i) false)] ∧ i ≤ dk.length) (fun (i : Nat) => dk.length - i) 0 ?_ ?_ ?_
        · exact Sub.cons rfl <| Sub.nil _
        · exact ⟨hM, Nat.zero_le _⟩
        rintro i w15 ⟨hM, hi⟩
        refine C.seq <| C.region <| E.bin rfl rfl rfl rfl <| E.nil <| X.next <| C.seq <| ?_
        refine C.cond' rfl (fun hC3 => ?_) (fun hC3 => ?_)
        ·
          have hi' : i < dk.length := by omega
          have htl : (tab i (despf dk lab bl area) ++ List.replicate (dk.length - i) false).length = dk.length := by rw [List.length_append, tab_len, List.length_replicate]; omega
          refine C.skip <| X.next <| C.seq <| C.block <| C.seq <| C.region <| E.mv rfl rfl <| ?_
          refine E.get (k := _) rfl rfl (by first | exact hM.sl 0 rfl | exact hM.sl 1 rfl | exact hM.sl 2 rfl | exact hM.sl 3 rfl | exact hM.sl 4 rfl | exact hM.sl 5 rfl | exact hM.sl 6 rfl | exact hM.sl 7 rfl | exact hM.arg0 (by assumption) | exact hM.arg (by assumption) (by assumption) | assumption) rfl (by first | omega | (simp only [List.length_replicate, List.length_append, List.length_set, List.length_cons, List.length_nil, List.length_map, List.length_range, List.length_take, List.length_drop, List.length_zipWith] at *; omega)) Try.underlying27 (by kernel_rfl) Try.underlying3 rfl rfl rfl ?_
          refine E.asg rfl rfl <| E.asg rfl rfl <| E.nil <| X.next <| C.drawnT 15 (by kernel_rfl) (by kernel_rfl) fun wh16 hwh16 => ?_
          have hM := hM.ext hwh16
          refine S.fld (o := 2) (sz := 0) rfl Try.underlying24 rfl rfl (by kernel_rfl) rfl ?_
          refine S.load rfl Try.underlying22 rfl (by first | exact hM.bcell 0 rfl rfl | exact hM.bcell 1 rfl rfl | exact hM.bcell 2 rfl rfl | exact hM.bcell 3 rfl rfl | exact hM.bcell 4 rfl rfl | exact hM.bcell 5 rfl rfl | exact hM.bcell 6 rfl rfl | exact hM.bcell 7 rfl rfl) rfl ?_
          refine S.mv rfl rfl <| S.mv rfl rfl <| S.bin rfl rfl rfl rfl <| S.mv rfl rfl <| ?_
          refine S.split 53 rfl (fun g53 => ?_) (fun g53 => ?_)
          ·
            try simp only [decide_eq_true_eq, decide_eq_false_iff_not, ne_eq, Decidable.not_not] at g53
            have hd : dk[i]? = some true := (dk_cases hi').resolve_right fun h => g53 (by have := hL.off i hi' (fun e => by rw [show dk[i]? = some true from e] at h; cases h); rw [List.getElem?_eq_getElem (by omega)] at this; exact Option.some.inj this)
            obtain ⟨q, hq, hql⟩ := hL.at hi' hd
            have hli : lab[i] = (q : Int) := by rw [List.getElem?_eq_getElem (by omega)] at hq; exact Option.some.inj hq
            have hdf := despf_on (area := area) hd hq hql
            refine S.on rfl rfl (S.mv rfl rfl ?_)
            refine S.on rfl rfl (S.mv rfl rfl ?_)
            refine S.on rfl rfl (S.idxF (k := q) rfl rfl (by first | exact hM.slF 0 rfl | exact hM.slF 1 rfl | exact hM.slF 2 rfl | exact hM.slF 3 rfl | exact hM.slF 4 rfl | exact hM.slF 5 rfl | exact hM.slF 6 rfl | exact hM.slF 7 rfl | exact hM.argF0 (by assumption) | exact hM.argF (by assumption) (by assumption) | assumption) hli hql (by decide) Try.underlying28 (by kernel_rfl) rfl ?_)
            refine S.on rfl rfl (S.fld (o := 4) (sz := 0) rfl Try.underlying38 rfl rfl (by kernel_rfl) rfl ?_)
            refine S.on rfl rfl (S.load rfl Try.underlying3 rfl (by first | exact (hM.slF 0 rfl).atA rfl (by first | omega | (simp only [List.length_replicate, List.length_append, List.length_set, List.length_cons, List.length_nil, List.length_map, List.length_range, List.length_take, List.length_drop, List.length_zipWith] at *; omega)) rfl | exact (hM.slF 1 rfl).atA rfl (by first | omega | (simp only [List.length_replicate, List.length_append, List.length_set, List.length_cons, List.length_nil, List.length_map, List.length_range, List.length_take, List.length_drop, List.length_zipWith] at *; omega)) rfl | exact (hM.slF 2 rfl).atA rfl (by first | omega | (simp only [List.length_replicate, List.length_append, List.length_set, List.length_cons, List.length_nil, List.length_map, List.length_range, List.length_take, List.length_drop, List.length_zipWith] at *; omega)) rfl | exact (hM.slF 3 rfl).atA rfl (by first | omega | (simp only [List.length_replicate, List.length_append, List.length_set, List.length_cons, List.length_nil, List.length_map, List.length_range, List.length_take, List.length_drop, List.length_zipWith] at *; omega)) rfl | exact (hM.slF 4 rfl).atA rfl (by first | omega | (simp only [List.length_replicate, List.length_append, List.length_set, List.length_cons, List.length_nil, List.length_map, List.length_range, List.length_take, List.length_drop, List.length_zipWith] at *; omega)) rfl | exact (hM.slF 5 rfl).atA rfl (by first | omega | (simp only [List.length_replicate, List.length_append, List.length_set, List.length_cons, List.length_nil, List.length_map, List.length_range, List.length_take, List.length_drop, List.length_zipWith] at *; omega)) rfl | exact (hM.slF 6 rfl).atA rfl (by first | omega | (simp only [List.length_replicate, List.length_append, List.length_set, List.length_cons, List.length_nil, List.length_map, List.length_range, List.length_take, List.length_drop, List.length_zipWith] at *; omega)) rfl | exact (hM.slF 7 rfl).atA rfl (by first | omega | (simp only [List.length_replicate, List.length_append, List.length_set, List.length_cons, List.length_nil, List.length_map, List.length_range, List.length_take, List.length_drop, List.length_zipWith] at *; omega)) rfl | exact (hM.argF0 (by assumption)).atA rfl (by first | omega | (simp only [List.length_replicate, List.length_append, List.length_set, List.length_cons, List.length_nil, List.length_map, List.length_range, List.length_take, List.length_drop, List.length_zipWith] at *; omega)) rfl | exact (hM.argF (by assumption) (by assumption)).atA rfl (by first | omega | (simp only [List.length_replicate, List.length_append, List.length_set, List.length_cons, List.length_nil, List.length_map, List.length_range, List.length_take, List.length_drop, List.length_zipWith] at *; omega)) rfl) rfl ?_)
            refine S.on rfl rfl (S.mv rfl rfl ?_)
            refine S.on rfl rfl (S.bin rfl rfl rfl rfl ?_)
            refine S.pick rfl rfl rfl <| ?_
            refine S.idx1 (k := _) rfl rfl (by first | exact hM.sl 0 rfl | exact hM.sl 1 rfl | exact hM.sl 2 rfl | exact hM.sl 3 rfl | exact hM.sl 4 rfl | exact hM.sl 5 rfl | exact hM.sl 6 rfl | exact hM.sl 7 rfl | exact hM.arg0 (by assumption) | exact hM.arg (by assumption) (by assumption) | assumption) rfl (by first | omega | (simp only [List.length_replicate, List.length_append, List.length_set, List.length_cons, List.length_nil, List.length_map, List.length_range, List.length_take, List.length_drop, List.length_zipWith] at *; omega)) Try.underlying22 (by kernel_rfl) rfl ?_
            refine S.nil ?_
            first
              | refine E.storeL 0 _ hM rfl rfl rfl (by kernel_rfl) rfl rfl ?_ ?_
              | refine E.storeL 1 _ hM rfl rfl rfl (by kernel_rfl) rfl rfl ?_ ?_
              | refine E.storeL 2 _ hM rfl rfl rfl (by kernel_rfl) rfl rfl ?_ ?_
              | refine E.storeL 3 _ hM rfl rfl rfl (by kernel_rfl) rfl rfl ?_ ?_
              | refine E.storeL 4 _ hM rfl rfl rfl (by kernel_rfl) rfl rfl ?_ ?_
              | refine E.storeL 5 _ hM rfl rfl rfl (by kernel_rfl) rfl rfl ?_ ?_
              | refine E.storeL 6 _ hM rfl rfl rfl (by kernel_rfl) rfl rfl ?_ ?_
              | refine E.storeL 7 _ hM rfl rfl rfl (by kernel_rfl) rfl rfl ?_ ?_
            · exact (by first | omega | (simp only [List.length_replicate, List.length_append, List.length_set, List.length_cons, List.length_nil, List.length_map, List.length_range, List.length_take, List.length_drop, List.length_zipWith] at *; omega))
            intro w17 hM
            try dsimp only [List.nil_append, List.cons_append, List.set_cons_zero, List.set_cons_succ, repl] at hM
            refine E.nil <| X.outN <| X.next <| C.region <| ?_
            refine E.add rfl rfl (by omega) rfl ?_

            refine E.mv rfl rfl <| E.nil <| X.again1 (i + 1) (Sub.cons rfl <| Sub.nil _) rfl ⟨by rw [← tab_set hi', hdf]; exact hM, by omega⟩ (by omega)
          ·
            try simp only [decide_eq_true_eq, decide_eq_false_iff_not, ne_eq, Decidable.not_not] at g53
            have hd : dk[i]? = some false := (dk_cases hi').resolve_left fun h => by
              obtain ⟨q, hq, hql⟩ := hL.at hi' h
              have hli : lab[i] = (q : Int) := by rw [List.getElem?_eq_getElem (by omega)] at hq; exact Option.some.inj hq
              omega
            have hdf := despf_off (lab := lab) (bl := bl) (area := area) hd
            refine S.off rfl rfl rfl rfl <| S.off rfl rfl rfl rfl <| S.off rfl rfl rfl rfl <| S.off rfl rfl rfl rfl <| S.off rfl rfl rfl rfl <| S.off rfl rfl rfl rfl <| S.off rfl rfl rfl rfl <| S.pick rfl rfl rfl <| ?_
            refine S.idx1 (k := _) rfl rfl (by first | exact hM.sl 0 rfl | exact hM.sl 1 rfl | exact hM.sl 2 rfl | exact hM.sl 3 rfl | exact hM.sl 4 rfl | exact hM.sl 5 rfl | exact hM.sl 6 rfl | exact hM.sl 7 rfl | exact hM.arg0 (by assumption) | exact hM.arg (by assumption) (by assumption) | assumption) rfl (by first | omega | (simp only [List.length_replicate, List.length_append, List.length_set, List.length_cons, List.length_nil, List.length_map, List.length_range, List.length_take, List.length_drop, List.length_zipWith] at *; omega)) Try.underlying22 (by kernel_rfl) rfl ?_
            refine S.nil ?_
            first
              | refine E.storeL 0 _ hM rfl rfl rfl (by kernel_rfl) rfl rfl ?_ ?_
              | refine E.storeL 1 _ hM rfl rfl rfl (by kernel_rfl) rfl rfl ?_ ?_
              | refine E.storeL 2 _ hM rfl rfl rfl (by kernel_rfl) rfl rfl ?_ ?_
              | refine E.storeL 3 _ hM rfl rfl rfl (by kernel_rfl) rfl rfl ?_ ?_
              | refine E.storeL 4 _ hM rfl rfl rfl (by kernel_rfl) rfl rfl ?_ ?_
              | refine E.storeL 5 _ hM rfl rfl rfl (by kernel_rfl) rfl rfl ?_ ?_
              | refine E.storeL 6 _ hM rfl rfl rfl (by kernel_rfl) rfl rfl ?_ ?_
              | refine E.storeL 7 _ hM rfl rfl rfl (by kernel_rfl) rfl rfl ?_ ?_
            · exact (by first | omega | (simp only [List.length_replicate, List.length_append, List.length_set, List.length_cons, List.length_nil, List.length_map, List.length_range, List.length_take, List.length_drop, List.length_zipWith] at *; omega))
            intro w18 hM
            try dsimp only [List.nil_append, List.cons_append, List.set_cons_zero, List.set_cons_succ, repl] at hM
            refine E.nil <| X.outN <| X.next <| C.region <| ?_
            refine E.add rfl rfl (by omega) rfl ?_

            refine E.mv rfl rfl <| E.nil <| X.again1 (i + 1) (Sub.cons rfl <| Sub.nil _) rfl ⟨by rw [← tab_set hi', hdf]; exact hM, by omega⟩ (by omega)
        ·
          obtain rfl : i = dk.length := by omega
          rw [Nat.sub_self, List.replicate_zero, List.append_nil] at hM
          refine C.exit <| X.exitT <| X.exitT <| X.outE <| X.next <| C.seq <| C.region <| ?_
          refine E.loadA rfl Try.underlying24 rfl (by kernel_rfl) (by first | exact hM.bat 0 rfl | exact hM.bat 1 rfl | exact hM.bat 2 rfl | exact hM.bat 3 rfl | exact hM.bat 4 rfl | exact hM.bat 5 rfl | exact hM.bat 6 rfl | exact hM.bat 7 rfl) rfl ?_
          first
            | refine E.storeAM 0 hM rfl rfl rfl (by kernel_rfl) rfl ?_ ?_
            | refine E.storeAM 1 hM rfl rfl rfl (by kernel_rfl) rfl ?_ ?_
            | refine E.storeAM 2 hM rfl rfl rfl (by kernel_rfl) rfl ?_ ?_
            | refine E.storeAM 3 hM rfl rfl rfl (by kernel_rfl) rfl ?_ ?_
            | refine E.storeAM 4 hM rfl rfl rfl (by kernel_rfl) rfl ?_ ?_
            | refine E.storeAM 5 hM rfl rfl rfl (by kernel_rfl) rfl ?_ ?_
            | refine E.storeAM 6 hM rfl rfl rfl (by kernel_rfl) rfl ?_ ?_
            | refine E.storeAM 7 hM rfl rfl rfl (by kernel_rfl) rfl ?_ ?_
          · exact ones (by first | rfl | exact (hM.sl 0 rfl).one | exact (hM.sl 1 rfl).one | exact (hM.sl 2 rfl).one | exact (hM.sl 3 rfl).one | exact (hM.sl 4 rfl).one | exact (hM.sl 5 rfl).one | exact (hM.sl 6 rfl).one | exact (hM.sl 7 rfl).one | exact (hM.slF 0 rfl).one | exact (hM.slF 1 rfl).one | exact (hM.slF 2 rfl).one | exact (hM.slF 3 rfl).one | exact (hM.slF 4 rfl).one | exact (hM.slF 5 rfl).one | exact (hM.slF 6 rfl).one | exact (hM.slF 7 rfl).one | exact RdL.one (by assumption) | exact RdF.one (by assumption) | assumption) <| ones (by first | rfl | exact (hM.sl 0 rfl).one | exact (hM.sl 1 rfl).one | exact (hM.sl 2 rfl).one | exact (hM.sl 3 rfl).one | exact (hM.sl 4 rfl).one | exact (hM.sl 5 rfl).one | exact (hM.sl 6 rfl).one | exact (hM.sl 7 rfl).one | exact (hM.slF 0 rfl).one | exact (hM.slF 1 rfl).one | exact (hM.slF 2 rfl).one | exact (hM.slF 3 rfl).one | exact (hM.slF 4 rfl).one | exact (hM.slF 5 rfl).one | exact (hM.slF 6 rfl).one | exact (hM.slF 7 rfl).one | exact RdL.one (by assumption) | exact RdF.one (by assumption) | assumption) <| ones (by first | rfl | exact (hM.sl 0 rfl).one | exact (hM.sl 1 rfl).one | exact (hM.sl 2 rfl).one | exact (hM.sl 3 rfl).one | exact (hM.sl 4 rfl).one | exact (hM.sl 5 rfl).one | exact (hM.sl 6 rfl).one | exact (hM.sl 7 rfl).one | exact (hM.slF 0 rfl).one | exact (hM.slF 1 rfl).one | exact (hM.slF 2 rfl).one | exact (hM.slF 3 rfl).one | exact (hM.slF 4 rfl).one | exact (hM.slF 5 rfl).one | exact (hM.slF 6 rfl).one | exact (hM.slF 7 rfl).one | exact RdL.one (by assumption) | exact RdF.one (by assumption) | assumption) <| ones_nil
          intro w19 hM
          try dsimp only [List.nil_append, List.cons_append, List.set_cons_zero, List.set_cons_succ, repl] at hM
          refine E.asg rfl rfl <| E.nil <| X.next <| C.ret <| retAT rfl rfl rfl Try.underlying24 rfl (by first | exact hM.blk 0 rfl | exact hM.blk 1 rfl | exact hM.blk 2 rfl | exact hM.blk 3 rfl | exact hM.blk 4 rfl | exact hM.blk 5 rfl | exact hM.blk 6 rfl | exact hM.blk 7 rfl) (by kernel_rfl) ?_
          exact ⟨_, _, _, _, _, rfl, .inr (.inr (.inr ⟨hok, ha0, hfew, rfl, rfl, rfl, lab, bl, hL, rfl⟩)), hM.pick [5] (by decide)⟩

theorem Equal_ret (W Ht W1 H1 : Int) (va vb : Value) (l m : List Bool) (w : World) (hr : RdL Value.bool w va l) (hs : RdL Value.bool w vb m) :
    Ret Try.prog 21 #[mat W Ht va, mat W1 H1 vb] w fun v w' => v = .bool (decide (W = W1 ∧ Ht = H1 ∧ l = m)) ∧ Ext w w' := by
  have hM := M.start w
  refine enter Try.func21 rfl (by kernel_rfl) Try.ntmps21 rfl ?_
  refine C.seq <| C.region <| ?_
  refine E.boxM hM rfl rfl rfl ?_
  intro b2 w0 hM
  try dsimp only [List.nil_append, List.cons_append, List.set_cons_zero, List.set_cons_succ, repl] at hM
  refine E.boxM hM rfl rfl rfl ?_
  intro b3 w1 hM
  try dsimp only [List.nil_append, List.cons_append, List.set_cons_zero, List.set_cons_succ, repl] at hM
  refine E.asg rfl rfl <| E.nil <| X.next <| C.seq <| ?_

  refine C.chainE [(2, _), (3, _)] rfl [(26, .bool (decide (W ≠ W1 ∨ Ht ≠ H1 ∨ l.length ≠ m.length)))] ?_ ?_
  ·
    refine C.region <| ?_
    refine E.fld (o := 0) (sz := 0) rfl Try.underlying24 rfl rfl (by kernel_rfl) rfl ?_
    refine E.load rfl Try.underlying3 rfl (by first | exact hM.bcell 0 rfl rfl | exact hM.bcell 1 rfl rfl | exact hM.bcell 2 rfl rfl | exact hM.bcell 3 rfl rfl | exact hM.bcell 4 rfl rfl | exact hM.bcell 5 rfl rfl | exact hM.bcell 6 rfl rfl | exact hM.bcell 7 rfl rfl) rfl ?_
    refine E.fld (o := 0) (sz := 0) rfl Try.underlying24 rfl rfl (by kernel_rfl) rfl ?_
    refine E.load rfl Try.underlying3 rfl (by first | exact hM.bcell 0 rfl rfl | exact hM.bcell 1 rfl rfl | exact hM.bcell 2 rfl rfl | exact hM.bcell 3 rfl rfl | exact hM.bcell 4 rfl rfl | exact hM.bcell 5 rfl rfl | exact hM.bcell 6 rfl rfl | exact hM.bcell 7 rfl rfl) rfl ?_
    refine E.bin rfl rfl rfl rfl <| E.mv rfl rfl <| ?_
    refine E.split 11 rfl (fun g11 => ?_) (fun g11 => ?_)
    ·
      try simp only [decide_eq_true_eq, decide_eq_false_iff_not, ne_eq, Decidable.not_not] at g11
      refine E.off rfl rfl rfl rfl <| E.off rfl rfl rfl rfl <| E.off rfl rfl rfl rfl <| E.off rfl rfl rfl rfl <| E.off rfl rfl rfl rfl <| E.pick rfl rfl rfl <| E.mv rfl rfl <| E.off rfl rfl rfl rfl <| E.off rfl rfl rfl rfl <| E.off rfl rfl rfl rfl <| E.off rfl rfl rfl rfl <| E.off rfl rfl rfl rfl <| E.off rfl rfl rfl rfl <| E.off rfl rfl rfl rfl <| E.pick rfl rfl rfl <| E.nil <| X.join0 (Sub.cons (by (first | exact leaf_f (by omega) | exact leaf_t (by omega) | exact leaf_d (by omega) | exact leaf_f (by first | (simp [*] <;> fail) | omega) | exact leaf_t (by first | (simp [*] <;> fail) | omega) | exact leaf_d (by first | (simp [*] <;> fail) | omega) | exact leaf_f (by (first | omega | ((try simp only [decide_eq_true_eq, decide_eq_false_iff_not, Bool.not_eq_true', Bool.not_eq_false'] at *); first | omega | (simp_all <;> fail) | (simp_all; omega)))) | exact leaf_t (by (first | omega | ((try simp only [decide_eq_true_eq, decide_eq_false_iff_not, Bool.not_eq_true', Bool.not_eq_false'] at *); first | omega | (simp_all <;> fail) | (simp_all; omega)))) | exact leaf_d (by (first | omega | ((try simp only [decide_eq_true_eq, decide_eq_false_iff_not, Bool.not_eq_true', Bool.not_eq_false'] at *); first | omega | (simp_all <;> fail) | (simp_all; omega)))))) <| Sub.nil _) rfl rfl
    ·
      try simp only [decide_eq_true_eq, decide_eq_false_iff_not, ne_eq, Decidable.not_not] at g11
      refine E.on rfl rfl (E.fld (o := 1) (sz := 0) rfl Try.underlying24 rfl rfl (by kernel_rfl) rfl ?_)
      refine E.on rfl rfl (E.load rfl Try.underlying3 rfl (by first | exact hM.bcell 0 rfl rfl | exact hM.bcell 1 rfl rfl | exact hM.bcell 2 rfl rfl | exact hM.bcell 3 rfl rfl | exact hM.bcell 4 rfl rfl | exact hM.bcell 5 rfl rfl | exact hM.bcell 6 rfl rfl | exact hM.bcell 7 rfl rfl) rfl ?_)
      refine E.on rfl rfl (E.fld (o := 1) (sz := 0) rfl Try.underlying24 rfl rfl (by kernel_rfl) rfl ?_)
      refine E.on rfl rfl (E.load rfl Try.underlying3 rfl (by first | exact hM.bcell 0 rfl rfl | exact hM.bcell 1 rfl rfl | exact hM.bcell 2 rfl rfl | exact hM.bcell 3 rfl rfl | exact hM.bcell 4 rfl rfl | exact hM.bcell 5 rfl rfl | exact hM.bcell 6 rfl rfl | exact hM.bcell 7 rfl rfl) rfl ?_)
      refine E.on rfl rfl (E.bin rfl rfl rfl rfl ?_)
      refine E.pick rfl rfl rfl <| E.mv rfl rfl <| ?_
      refine E.split 18 rfl (fun g18 => ?_) (fun g18 => ?_)
      ·
        try simp only [decide_eq_true_eq, decide_eq_false_iff_not, ne_eq, Decidable.not_not] at g18
        refine E.off rfl rfl rfl rfl <| E.off rfl rfl rfl rfl <| E.off rfl rfl rfl rfl <| E.off rfl rfl rfl rfl <| E.off rfl rfl rfl rfl <| E.off rfl rfl rfl rfl <| E.off rfl rfl rfl rfl <| E.pick rfl rfl rfl <| E.nil <| X.join0 (Sub.cons (by (first | exact leaf_f (by omega) | exact leaf_t (by omega) | exact leaf_d (by omega) | exact leaf_f (by first | (simp [*] <;> fail) | omega) | exact leaf_t (by first | (simp [*] <;> fail) | omega) | exact leaf_d (by first | (simp [*] <;> fail) | omega) | exact leaf_f (by (first | omega | ((try simp only [decide_eq_true_eq, decide_eq_false_iff_not, Bool.not_eq_true', Bool.not_eq_false'] at *); first | omega | (simp_all <;> fail) | (simp_all; omega)))) | exact leaf_t (by (first | omega | ((try simp only [decide_eq_true_eq, decide_eq_false_iff_not, Bool.not_eq_true', Bool.not_eq_false'] at *); first | omega | (simp_all <;> fail) | (simp_all; omega)))) | exact leaf_d (by (first | omega | ((try simp only [decide_eq_true_eq, decide_eq_false_iff_not, Bool.not_eq_true', Bool.not_eq_false'] at *); first | omega | (simp_all <;> fail) | (simp_all; omega)))))) <| Sub.nil _) rfl rfl
      ·
        try simp only [decide_eq_true_eq, decide_eq_false_iff_not, ne_eq, Decidable.not_not] at g18
        refine E.on rfl rfl (E.fld (o := 2) (sz := 0) rfl Try.underlying24 rfl rfl (by kernel_rfl) rfl ?_)
        refine E.on rfl rfl (E.load rfl Try.underlying22 rfl (by first | exact hM.bcell 0 rfl rfl | exact hM.bcell 1 rfl rfl | exact hM.bcell 2 rfl rfl | exact hM.bcell 3 rfl rfl | exact hM.bcell 4 rfl rfl | exact hM.bcell 5 rfl rfl | exact hM.bcell 6 rfl rfl | exact hM.bcell 7 rfl rfl) rfl ?_)
        refine E.on rfl rfl (E.lenv rfl (Rd.shape (by first | exact hM.sl 0 rfl | exact hM.sl 1 rfl | exact hM.sl 2 rfl | exact hM.sl 3 rfl | exact hM.sl 4 rfl | exact hM.sl 5 rfl | exact hM.sl 6 rfl | exact hM.sl 7 rfl | exact hM.arg0 (by assumption) | exact hM.arg (by assumption) (by assumption) | assumption)) Try.underlying22 rfl ?_)
        refine E.on rfl rfl (E.fld (o := 2) (sz := 0) rfl Try.underlying24 rfl rfl (by kernel_rfl) rfl ?_)
        refine E.on rfl rfl (E.load rfl Try.underlying22 rfl (by first | exact hM.bcell 0 rfl rfl | exact hM.bcell 1 rfl rfl | exact hM.bcell 2 rfl rfl | exact hM.bcell 3 rfl rfl | exact hM.bcell 4 rfl rfl | exact hM.bcell 5 rfl rfl | exact hM.bcell 6 rfl rfl | exact hM.bcell 7 rfl rfl) rfl ?_)
        refine E.on rfl rfl (E.lenv rfl (Rd.shape (by first | exact hM.sl 0 rfl | exact hM.sl 1 rfl | exact hM.sl 2 rfl | exact hM.sl 3 rfl | exact hM.sl 4 rfl | exact hM.sl 5 rfl | exact hM.sl 6 rfl | exact hM.sl 7 rfl | exact hM.arg0 (by assumption) | exact hM.arg (by assumption) (by assumption) | assumption)) Try.underlying22 rfl ?_)
        refine E.on rfl rfl (E.bin rfl rfl rfl rfl ?_)
        refine E.pick rfl rfl rfl <| E.nil <| X.join0 (Sub.cons (by (first | exact leaf_f (by omega) | exact leaf_t (by omega) | exact leaf_d (by omega) | exact leaf_f (by first | (simp [*] <;> fail) | omega) | exact leaf_t (by first | (simp [*] <;> fail) | omega) | exact leaf_d (by first | (simp [*] <;> fail) | omega) | exact leaf_f (by (first | omega | ((try simp only [decide_eq_true_eq, decide_eq_false_iff_not, Bool.not_eq_true', Bool.not_eq_false'] at *); first | omega | (simp_all <;> fail) | (simp_all; omega)))) | exact leaf_t (by (first | omega | ((try simp only [decide_eq_true_eq, decide_eq_false_iff_not, Bool.not_eq_true', Bool.not_eq_false'] at *); first | omega | (simp_all <;> fail) | (simp_all; omega)))) | exact leaf_d (by (first | omega | ((try simp only [decide_eq_true_eq, decide_eq_false_iff_not, Bool.not_eq_true', Bool.not_eq_false'] at *); first | omega | (simp_all <;> fail) | (simp_all; omega)))))) <| Sub.nil _) rfl rfl
  refine C.cond' rfl (fun hC0 => ?_) (fun hC0 => ?_)
  ·
    have hne : ¬ (W = W1 ∧ Ht = H1 ∧ l = m) := fun ⟨h1, h2, h3⟩ => by subst h1 h2 h3; simp at hC0
    refine C.seq <| C.region <| E.asg rfl rfl <| E.nil <| X.next <| C.ret <| X.retT <| ret1 rfl rfl ?_
    exact ⟨by rw [decide_eq_false hne], hM.toExt⟩
  ·
    have hl : l.length = m.length := by omega
    have hlle := hr.le
    refine C.skip <| X.next <| C.seq <| C.seq <| C.region <| E.asg rfl rfl <| E.nil <| X.next <| C.block <| ?_

    refine C.loop1 [(2, _), (3, _)] rfl (fun (i : Nat) => [(5, i64 i)]) (fun (i : Nat) w' => M w (Nn) w' [Rg.blk b2 24 [i64 W, i64 Ht, va], Rg.blk b3 24 [i64 W1, i64 H1, vb]] ∧ i ≤ l.length ∧ ∀ j, j < i → l[j]? = m[j]?) (fun (i : Nat) => l.length - i) 0 ?_ ?_ ?_
    · exact Sub.cons rfl <| Sub.nil _
    · exact ⟨hM, Nat.zero_le _, fun j hj => by omega⟩
    rintro i w2 ⟨hM, hi, hI⟩
    refine C.seq <| C.seq <| C.region <| E.mv rfl rfl <| ?_
    refine E.fld (o := 2) (sz := 0) rfl Try.underlying24 rfl rfl (by kernel_rfl) rfl ?_
    refine E.load rfl Try.underlying22 rfl (by first | exact hM.bcell 0 rfl rfl | exact hM.bcell 1 rfl rfl | exact hM.bcell 2 rfl rfl | exact hM.bcell 3 rfl rfl | exact hM.bcell 4 rfl rfl | exact hM.bcell 5 rfl rfl | exact hM.bcell 6 rfl rfl | exact hM.bcell 7 rfl rfl) rfl ?_
    refine E.lenv rfl (Rd.shape (by first | exact hM.sl 0 rfl | exact hM.sl 1 rfl | exact hM.sl 2 rfl | exact hM.sl 3 rfl | exact hM.sl 4 rfl | exact hM.sl 5 rfl | exact hM.sl 6 rfl | exact hM.sl 7 rfl | exact hM.arg0 (by assumption) | exact hM.arg (by assumption) (by assumption) | assumption)) Try.underlying22 rfl ?_
    refine E.bin rfl rfl rfl rfl <| E.nil <| X.next <| ?_
    refine C.cond' rfl (fun hC1 => ?_) (fun hC1 => ?_)
    ·
      have hi' : i < l.length := by omega
      have him : i < m.length := by omega
      refine C.skip <| X.next <| C.seq <| C.block <| C.seq <| C.drawn (by kernel_rfl) (by kernel_rfl) <| ?_
      refine Q.fld (o := 2) (sz := 0) rfl Try.underlying24 rfl rfl (by kernel_rfl) rfl ?_
      refine Q.load rfl Try.underlying22 rfl (by first | exact hM.bcell 0 rfl rfl | exact hM.bcell 1 rfl rfl | exact hM.bcell 2 rfl rfl | exact hM.bcell 3 rfl rfl | exact hM.bcell 4 rfl rfl | exact hM.bcell 5 rfl rfl | exact hM.bcell 6 rfl rfl | exact hM.bcell 7 rfl rfl) rfl ?_
      refine Q.mv rfl rfl <| ?_
      refine Q.idx1 (k := _) rfl rfl (by first | exact hM.sl 0 rfl | exact hM.sl 1 rfl | exact hM.sl 2 rfl | exact hM.sl 3 rfl | exact hM.sl 4 rfl | exact hM.sl 5 rfl | exact hM.sl 6 rfl | exact hM.sl 7 rfl | exact hM.arg0 (by assumption) | exact hM.arg (by assumption) (by assumption) | assumption) rfl (by first | omega | (simp only [List.length_replicate, List.length_append, List.length_set, List.length_cons, List.length_nil, List.length_map, List.length_range, List.length_take, List.length_drop, List.length_zipWith] at *; omega)) Try.underlying22 (by kernel_rfl) rfl ?_
      refine Q.load rfl Try.underlying4 rfl (by first | exact (hM.sl 0 rfl).cellA rfl (by first | omega | (simp only [List.length_replicate, List.length_append, List.length_set, List.length_cons, List.length_nil, List.length_map, List.length_range, List.length_take, List.length_drop, List.length_zipWith] at *; omega)) | exact (hM.sl 1 rfl).cellA rfl (by first | omega | (simp only [List.length_replicate, List.length_append, List.length_set, List.length_cons, List.length_nil, List.length_map, List.length_range, List.length_take, List.length_drop, List.length_zipWith] at *; omega)) | exact (hM.sl 2 rfl).cellA rfl (by first | omega | (simp only [List.length_replicate, List.length_append, List.length_set, List.length_cons, List.length_nil, List.length_map, List.length_range, List.length_take, List.length_drop, List.length_zipWith] at *; omega)) | exact (hM.sl 3 rfl).cellA rfl (by first | omega | (simp only [List.length_replicate, List.length_append, List.length_set, List.length_cons, List.length_nil, List.length_map, List.length_range, List.length_take, List.length_drop, List.length_zipWith] at *; omega)) | exact (hM.sl 4 rfl).cellA rfl (by first | omega | (simp only [List.length_replicate, List.length_append, List.length_set, List.length_cons, List.length_nil, List.length_map, List.length_range, List.length_take, List.length_drop, List.length_zipWith] at *; omega)) | exact (hM.sl 5 rfl).cellA rfl (by first | omega | (simp only [List.length_replicate, List.length_append, List.length_set, List.length_cons, List.length_nil, List.length_map, List.length_range, List.length_take, List.length_drop, List.length_zipWith] at *; omega)) | exact (hM.sl 6 rfl).cellA rfl (by first | omega | (simp only [List.length_replicate, List.length_append, List.length_set, List.length_cons, List.length_nil, List.length_map, List.length_range, List.length_take, List.length_drop, List.length_zipWith] at *; omega)) | exact (hM.sl 7 rfl).cellA rfl (by first | omega | (simp only [List.length_replicate, List.length_append, List.length_set, List.length_cons, List.length_nil, List.length_map, List.length_range, List.length_take, List.length_drop, List.length_zipWith] at *; omega)) | exact (hM.arg0 (by assumption)).cellA rfl (by first | omega | (simp only [List.length_replicate, List.length_append, List.length_set, List.length_cons, List.length_nil, List.length_map, List.length_range, List.length_take, List.length_drop, List.length_zipWith] at *; omega)) | exact (hM.arg (by assumption) (by assumption)).cellA rfl (by first | omega | (simp only [List.length_replicate, List.length_append, List.length_set, List.length_cons, List.length_nil, List.length_map, List.length_range, List.length_take, List.length_drop, List.length_zipWith] at *; omega))) rfl ?_
      refine Q.fld (o := 2) (sz := 0) rfl Try.underlying24 rfl rfl (by kernel_rfl) rfl ?_
      refine Q.load rfl Try.underlying22 rfl (by first | exact hM.bcell 0 rfl rfl | exact hM.bcell 1 rfl rfl | exact hM.bcell 2 rfl rfl | exact hM.bcell 3 rfl rfl | exact hM.bcell 4 rfl rfl | exact hM.bcell 5 rfl rfl | exact hM.bcell 6 rfl rfl | exact hM.bcell 7 rfl rfl) rfl ?_
      refine Q.mv rfl rfl <| ?_
      refine Q.idx1 (k := _) rfl rfl (by first | exact hM.sl 0 rfl | exact hM.sl 1 rfl | exact hM.sl 2 rfl | exact hM.sl 3 rfl | exact hM.sl 4 rfl | exact hM.sl 5 rfl | exact hM.sl 6 rfl | exact hM.sl 7 rfl | exact hM.arg0 (by assumption) | exact hM.arg (by assumption) (by assumption) | assumption) rfl (by first | omega | (simp only [List.length_replicate, List.length_append, List.length_set, List.length_cons, List.length_nil, List.length_map, List.length_range, List.length_take, List.length_drop, List.length_zipWith] at *; omega)) Try.underlying22 (by kernel_rfl) rfl ?_
      refine Q.load rfl Try.underlying4 rfl (by first | exact (hM.sl 0 rfl).cellA rfl (by first | omega | (simp only [List.length_replicate, List.length_append, List.length_set, List.length_cons, List.length_nil, List.length_map, List.length_range, List.length_take, List.length_drop, List.length_zipWith] at *; omega)) | exact (hM.sl 1 rfl).cellA rfl (by first | omega | (simp only [List.length_replicate, List.length_append, List.length_set, List.length_cons, List.length_nil, List.length_map, List.length_range, List.length_take, List.length_drop, List.length_zipWith] at *; omega)) | exact (hM.sl 2 rfl).cellA rfl (by first | omega | (simp only [List.length_replicate, List.length_append, List.length_set, List.length_cons, List.length_nil, List.length_map, List.length_range, List.length_take, List.length_drop, List.length_zipWith] at *; omega)) | exact (hM.sl 3 rfl).cellA rfl (by first | omega | (simp only [List.length_replicate, List.length_append, List.length_set, List.length_cons, List.length_nil, List.length_map, List.length_range, List.length_take, List.length_drop, List.length_zipWith] at *; omega)) | exact (hM.sl 4 rfl).cellA rfl (by first | omega | (simp only [List.length_replicate, List.length_append, List.length_set, List.length_cons, List.length_nil, List.length_map, List.length_range, List.length_take, List.length_drop, List.length_zipWith] at *; omega)) | exact (hM.sl 5 rfl).cellA rfl (by first | omega | (simp only [List.length_replicate, List.length_append, List.length_set, List.length_cons, List.length_nil, List.length_map, List.length_range, List.length_take, List.length_drop, List.length_zipWith] at *; omega)) | exact (hM.sl 6 rfl).cellA rfl (by first | omega | (simp only [List.length_replicate, List.length_append, List.length_set, List.length_cons, List.length_nil, List.length_map, List.length_range, List.length_take, List.length_drop, List.length_zipWith] at *; omega)) | exact (hM.sl 7 rfl).cellA rfl (by first | omega | (simp only [List.length_replicate, List.length_append, List.length_set, List.length_cons, List.length_nil, List.length_map, List.length_range, List.length_take, List.length_drop, List.length_zipWith] at *; omega)) | exact (hM.arg0 (by assumption)).cellA rfl (by first | omega | (simp only [List.length_replicate, List.length_append, List.length_set, List.length_cons, List.length_nil, List.length_map, List.length_range, List.length_take, List.length_drop, List.length_zipWith] at *; omega)) | exact (hM.arg (by assumption) (by assumption)).cellA rfl (by first | omega | (simp only [List.length_replicate, List.length_append, List.length_set, List.length_cons, List.length_nil, List.length_map, List.length_range, List.length_take, List.length_drop, List.length_zipWith] at *; omega))) rfl ?_
      refine Q.neb rfl rfl Try.underlying4 rfl <| Q.nil <| fun w3 hx3 => ?_
      have hM := hM.ext hx3
      refine X.next <| ?_
      refine C.cond rfl (fun hC2 => ?_) (fun hC2 => ?_)
      ·
        have hne : ¬ (W = W1 ∧ Ht = H1 ∧ l = m) := fun ⟨h1, h2, h3⟩ => by subst h3; simp at hC2
        refine C.seq <| C.region <| E.asg rfl rfl <| E.nil <| X.next <| C.ret <| X.retB <| X.retT <| X.retT <| X.retB <| X.retT <| ret1 rfl rfl ?_
        exact ⟨by rw [decide_eq_false hne], hM.toExt⟩
      ·
        refine C.skip <| X.outN <| X.next <| C.region <| E.mv rfl rfl <| ?_
        refine E.add rfl rfl (by omega) rfl ?_

        refine E.asg rfl rfl <| E.nil <| X.again1 (i + 1) (Sub.cons rfl <| Sub.nil _) rfl ⟨hM, by omega, fun j hj => by
          by_cases e : j = i
          · subst e; rw [List.getElem?_eq_getElem hi', List.getElem?_eq_getElem him]; simpa using hC2
          · exact hI j (by omega)⟩ (by omega)
    ·
      have hlm : l = m := List.ext_getElem? fun j => by
        by_cases h : j < l.length
        · exact hI j (by omega)
        · rw [List.getElem?_eq_none (by omega), List.getElem?_eq_none (by omega)]
      refine C.exit <| X.exitT <| X.exitT <| X.outE <| X.next <| C.seq <| C.region <| E.asg rfl rfl <| E.nil <| X.next <| C.ret <| ret1 rfl rfl ?_
      exact ⟨by rw [decide_eq_true ⟨by omega, by omega, hlm⟩], hM.toExt⟩

end Go.Proofs.Ytnnmebpahickhaa
