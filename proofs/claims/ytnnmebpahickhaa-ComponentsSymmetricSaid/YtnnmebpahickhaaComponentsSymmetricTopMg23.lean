/- Texts of the claim, laid together: Fill. -/
import Derived.Test.YtnnmebpahickhaaComponentsSymmetricTopMg18
import Derived.Test.YtnnmebpahickhaaComponentsSymmetricTopMg19
import Derived.Test.YtnnmebpahickhaaComponentsSymmetricTopMg20
/- components: Fill, Euler. -/
namespace Go.Proofs.Ytnnmebpahickhaa
set_option linter.unusedSimpArgs false
set_option linter.unusedVariables false
open Go.RowKit Sym Uf Classical

set_option maxHeartbeats 2000000 in
theorem Fill_ret (W Ht : Int) (vd : Value) (dk : List Bool) (w : World) (hr : RdL Value.bool w vd dk) :
    Ret Try.prog 19 #[mat W Ht vd] w fun v w' => MatAns (FillSp W Ht dk) v w w' := by
  have hM := M.start w
  refine enter Try.func19 rfl (by kernel_rfl) Try.ntmps19 rfl ?_
  refine C.seq <| C.region <| ?_
  refine E.boxM hM rfl rfl rfl ?_
  intro b1 w0 hM
  try dsimp only [List.nil_append, List.cons_append, List.set_cons_zero, List.set_cons_succ, repl] at hM
  refine E.allocM (z := .agg #[.int .i64 0, .int .i64 0, .slice none 0 0]) (cs := [.int .i64 0, .int .i64 0, .slice none 0 0]) hM (by kernel_rfl) rfl rfl ?_
  intro b2 w1 hM
  try dsimp only [List.nil_append, List.cons_append, List.set_cons_zero, List.set_cons_succ, repl] at hM
  refine E.asg rfl rfl <| E.nil <| X.next <| C.seq <| C.seq <| C.region <| ?_
  refine E.loadA rfl Try.underlying24 rfl (by kernel_rfl) (by first | exact hM.bat 0 rfl | exact hM.bat 1 rfl | exact hM.bat 2 rfl | exact hM.bat 3 rfl | exact hM.bat 4 rfl | exact hM.bat 5 rfl | exact hM.bat 6 rfl | exact hM.bat 7 rfl) rfl ?_
  refine E.call rfl rfl (Check_ret W Ht vd dk.length _ hr.shape) ?_
  rintro _ w9 ⟨rfl, x9⟩
  have hM := hM.ext x9
  try dsimp only [List.nil_append, List.cons_append, List.set_cons_zero, List.set_cons_succ, repl] at hM
  refine E.asg rfl rfl <| E.nil <| X.next <| C.seq <| C.region <| E.mv rfl rfl <| E.bin rfl rfl rfl rfl <| E.nil <| X.next <| ?_
  refine C.cond' rfl (fun hC0 => ?_) (fun hC0 => ?_)
  ·
    have hno : ¬ okMat W Ht dk.length := fun h => by rw [if_pos h] at hC0; exact hC0 rfl
    rw [if_neg hno]
    refine C.seq <| C.region <| ?_
    refine E.buildC (cs := [_, _, _]) [.int .i64 0, .int .i64 0, .slice none 0 0] [] rfl rfl (by kernel_rfl) rfl ?_
    refine E.mv rfl rfl <| ?_
    first
      | refine E.storeAM 0 hM rfl rfl rfl (by kernel_rfl) rfl ?_ ?_
      | refine E.storeAM 1 hM rfl rfl rfl (by kernel_rfl) rfl ?_ ?_
      | refine E.storeAM 2 hM rfl rfl rfl (by kernel_rfl) rfl ?_ ?_
      | refine E.storeAM 3 hM rfl rfl rfl (by kernel_rfl) rfl ?_ ?_
      | refine E.storeAM 4 hM rfl rfl rfl (by kernel_rfl) rfl ?_ ?_
      | refine E.storeAM 5 hM rfl rfl rfl (by kernel_rfl) rfl ?_ ?_
      | refine E.storeAM 6 hM rfl rfl rfl (by kernel_rfl) rfl ?_ ?_
      | refine E.storeAM 7 hM rfl rfl rfl (by kernel_rfl) rfl ?_ ?_
    · exact ones (by first | rfl | exact (hM.sl 0 rfl).one | exact (hM.sl 1 rfl).one | exact (hM.sl 2 rfl).one | exact (hM.sl 3 rfl).one | exact (hM.sl 4 rfl).one | exact (hM.sl 5 rfl).one | exact (hM.sl 6 rfl).one | exact (hM.sl 7 rfl).one | exact (hM.slF 0 rfl).one | exact (hM.slF 1 rfl).one | exact (hM.slF 2 rfl).one | exact (hM.slF 3 rfl).one | exact (hM.slF 4 rfl).one | exact (hM.slF 5 rfl).one | exact (hM.slF 6 rfl).one | exact (hM.slF 7 rfl).one | exact RdL.one (by assumption) | exact RdF.one (by assumption) | assumption) <| ones (by first | rfl | exact (hM.sl 0 rfl).one | exact (hM.sl 1 rfl).one | exact (hM.sl 2 rfl).one | exact (hM.sl 3 rfl).one | exact (hM.sl 4 rfl).one | exact (hM.sl 5 rfl).one | exact (hM.sl 6 rfl).one | exact (hM.sl 7 rfl).one | exact (hM.slF 0 rfl).one | exact (hM.slF 1 rfl).one | exact (hM.slF 2 rfl).one | exact (hM.slF 3 rfl).one | exact (hM.slF 4 rfl).one | exact (hM.slF 5 rfl).one | exact (hM.slF 6 rfl).one | exact (hM.slF 7 rfl).one | exact RdL.one (by assumption) | exact RdF.one (by assumption) | assumption) <| ones (by first | rfl | exact (hM.sl 0 rfl).one | exact (hM.sl 1 rfl).one | exact (hM.sl 2 rfl).one | exact (hM.sl 3 rfl).one | exact (hM.sl 4 rfl).one | exact (hM.sl 5 rfl).one | exact (hM.sl 6 rfl).one | exact (hM.sl 7 rfl).one | exact (hM.slF 0 rfl).one | exact (hM.slF 1 rfl).one | exact (hM.slF 2 rfl).one | exact (hM.slF 3 rfl).one | exact (hM.slF 4 rfl).one | exact (hM.slF 5 rfl).one | exact (hM.slF 6 rfl).one | exact (hM.slF 7 rfl).one | exact RdL.one (by assumption) | exact RdF.one (by assumption) | assumption) <| ones_nil
    intro w3 hM
    try dsimp only [List.nil_append, List.cons_append, List.set_cons_zero, List.set_cons_succ, repl] at hM
    refine E.asg rfl rfl <| E.nil <| X.next <| C.ret <| X.retT <| retAT rfl rfl rfl Try.underlying24 rfl (by first | exact hM.blk 0 rfl | exact hM.blk 1 rfl | exact hM.blk 2 rfl | exact hM.blk 3 rfl | exact hM.blk 4 rfl | exact hM.blk 5 rfl | exact hM.blk 6 rfl | exact hM.blk 7 rfl) (by kernel_rfl) ?_
    exact ⟨_, _, _, [], _, rfl, .inl ⟨hno, rfl, rfl, rfl, rfl⟩, (hM.nil Value.bool 4).pick [2] (by decide)⟩
  ·
    have hok : okMat W Ht dk.length := Decidable.byContradiction fun h => by rw [if_neg h] at hC0; exact hC0 (by decide)
    obtain ⟨a, b, rfl, rfl, hW, hH, hn, hn0⟩ := hok.nat
    refine C.skip <| X.next <| C.seq <| C.region <| ?_
    refine E.loadA rfl Try.underlying24 rfl (by kernel_rfl) (by first | exact hM.bat 0 rfl | exact hM.bat 1 rfl | exact hM.bat 2 rfl | exact hM.bat 3 rfl | exact hM.bat 4 rfl | exact hM.bat 5 rfl | exact hM.bat 6 rfl | exact hM.bat 7 rfl) rfl ?_
    refine E.call rfl rfl (holes_ret a b vd dk _ (hM.arg0 hr) hW hH hn hn0) ?_
    rintro _ w10 ⟨vs, r, s, m0, rfl, hP, hI, m⟩
    have hM := hM.call m
    try dsimp only [List.nil_append, List.cons_append, List.set_cons_zero, List.set_cons_succ, repl] at hM
    have hsl := hP.len
    refine E.mv rfl rfl <| E.ext rfl rfl rfl <| E.ext rfl rfl rfl <| E.asg rfl rfl <| E.asg rfl rfl <| E.nil <| X.next <| ?_

    refine C.cut2 [(2, _), (5, _), (6, _)] rfl (fun (b7 : Nat) (vo : Value) => [(7, pv b7)]) (fun (b7 : Nat) (vo : Value) w' => M w (Nn) w' [Rg.blk b1 24 [i64 a, i64 b, vd], Rg.blk b2 24 [i64 0, i64 0, nilS], Rg.sl i32 21 vs s, Rg.mp r .i32 Value.bool m0, Rg.blk b7 24 [i64 a, i64 b, vo], Rg.sl Value.bool 4 vo (List.replicate dk.length false)]) ?_ ?_
    ·
      refine C.heldE (by kernel_rfl) fun wh5 hwh5 _ => ?_
      have hS := hwh5
      have hM0 := hM
      have hM := M.ofExt hwh5
      refine H.takeV 0 rfl rfl (by kernel_rfl) (by kernel_rfl) (by kernel_rfl) hS (Y.fld (o := 0) (sz := 0) rfl Try.underlying24 rfl rfl (by kernel_rfl)) (fun w' hS => by have hM := hM0.ext hS; exact Y.fld (o := 0) (sz := 0) rfl Try.underlying24 rfl rfl (by kernel_rfl)) rfl ?_
      refine H.takeV 2 rfl rfl (by kernel_rfl) (by kernel_rfl) (by kernel_rfl) hS (Y.fld (o := 1) (sz := 0) rfl Try.underlying24 rfl rfl (by kernel_rfl)) (fun w' hS => by have hM := hM0.ext hS; exact Y.fld (o := 1) (sz := 0) rfl Try.underlying24 rfl rfl (by kernel_rfl)) rfl ?_
      refine H.takeV 4 rfl rfl (by kernel_rfl) (by kernel_rfl) (by kernel_rfl) hS (Y.fld (o := 2) (sz := 0) rfl Try.underlying24 rfl rfl (by kernel_rfl)) (fun w' hS => by have hM := hM0.ext hS; exact Y.fld (o := 2) (sz := 0) rfl Try.underlying24 rfl rfl (by kernel_rfl)) rfl ?_
      refine H.takeV 1 rfl rfl (by kernel_rfl) (by kernel_rfl) (by kernel_rfl) hS (Y.load rfl Try.underlying3 rfl (by first | exact (hM0.ext hS).bcell 0 rfl rfl | exact (hM0.ext hS).bcell 1 rfl rfl | exact (hM0.ext hS).bcell 2 rfl rfl | exact (hM0.ext hS).bcell 3 rfl rfl | exact (hM0.ext hS).bcell 4 rfl rfl | exact (hM0.ext hS).bcell 5 rfl rfl | exact (hM0.ext hS).bcell 6 rfl rfl | exact (hM0.ext hS).bcell 7 rfl rfl)) (fun w' hS => by have hM := hM0.ext hS; exact Y.load rfl Try.underlying3 rfl (by first | exact hM.bcell 0 rfl rfl | exact hM.bcell 1 rfl rfl | exact hM.bcell 2 rfl rfl | exact hM.bcell 3 rfl rfl | exact hM.bcell 4 rfl rfl | exact hM.bcell 5 rfl rfl | exact hM.bcell 6 rfl rfl | exact hM.bcell 7 rfl rfl)) rfl ?_
      refine H.takeV 3 rfl rfl (by kernel_rfl) (by kernel_rfl) (by kernel_rfl) hS (Y.load rfl Try.underlying3 rfl (by first | exact (hM0.ext hS).bcell 0 rfl rfl | exact (hM0.ext hS).bcell 1 rfl rfl | exact (hM0.ext hS).bcell 2 rfl rfl | exact (hM0.ext hS).bcell 3 rfl rfl | exact (hM0.ext hS).bcell 4 rfl rfl | exact (hM0.ext hS).bcell 5 rfl rfl | exact (hM0.ext hS).bcell 6 rfl rfl | exact (hM0.ext hS).bcell 7 rfl rfl)) (fun w' hS => by have hM := hM0.ext hS; exact Y.load rfl Try.underlying3 rfl (by first | exact hM.bcell 0 rfl rfl | exact hM.bcell 1 rfl rfl | exact hM.bcell 2 rfl rfl | exact hM.bcell 3 rfl rfl | exact hM.bcell 4 rfl rfl | exact hM.bcell 5 rfl rfl | exact hM.bcell 6 rfl rfl | exact hM.bcell 7 rfl rfl)) rfl ?_
      refine H.takeV 5 rfl rfl (by kernel_rfl) (by kernel_rfl) (by kernel_rfl) hS (Y.load rfl Try.underlying22 rfl (by first | exact (hM0.ext hS).bcell 0 rfl rfl | exact (hM0.ext hS).bcell 1 rfl rfl | exact (hM0.ext hS).bcell 2 rfl rfl | exact (hM0.ext hS).bcell 3 rfl rfl | exact (hM0.ext hS).bcell 4 rfl rfl | exact (hM0.ext hS).bcell 5 rfl rfl | exact (hM0.ext hS).bcell 6 rfl rfl | exact (hM0.ext hS).bcell 7 rfl rfl)) (fun w' hS => by have hM := hM0.ext hS; exact Y.load rfl Try.underlying22 rfl (by first | exact hM.bcell 0 rfl rfl | exact hM.bcell 1 rfl rfl | exact hM.bcell 2 rfl rfl | exact hM.bcell 3 rfl rfl | exact hM.bcell 4 rfl rfl | exact hM.bcell 5 rfl rfl | exact hM.bcell 6 rfl rfl | exact hM.bcell 7 rfl rfl)) rfl ?_
      refine H.takeV 6 rfl rfl (by kernel_rfl) (by kernel_rfl) (by kernel_rfl) hS (Y.lenv rfl (Rd.shape (by first | exact (hM0.ext hS).sl 0 rfl | exact (hM0.ext hS).sl 1 rfl | exact (hM0.ext hS).sl 2 rfl | exact (hM0.ext hS).sl 3 rfl | exact (hM0.ext hS).sl 4 rfl | exact (hM0.ext hS).sl 5 rfl | exact (hM0.ext hS).sl 6 rfl | exact (hM0.ext hS).sl 7 rfl | exact (hM0.ext hS).arg0 (by assumption) | exact (hM0.ext hS).arg (by assumption) (by assumption) | assumption)) Try.underlying22) (fun w' hS => by have hM := hM0.ext hS; exact Y.lenv rfl (Rd.shape (by first | exact hM.sl 0 rfl | exact hM.sl 1 rfl | exact hM.sl 2 rfl | exact hM.sl 3 rfl | exact hM.sl 4 rfl | exact hM.sl 5 rfl | exact hM.sl 6 rfl | exact hM.sl 7 rfl | exact hM.arg0 (by assumption) | exact hM.arg (by assumption) (by assumption) | assumption)) Try.underlying22) rfl ?_
      refine H.two 7 9 rfl rfl (by kernel_rfl) ?_ ?_
      ·
        refine E.makeM (by_ := 1) (enc := Value.bool) false hM rfl Try.underlying22 (by kernel_rfl) rfl (by first | omega | (simp only [List.length_replicate, List.length_append, List.length_set, List.length_cons, List.length_nil, List.length_map, List.length_range, List.length_take, List.length_drop, List.length_zipWith] at *; omega)) (by first | omega | (simp only [List.length_replicate, List.length_append, List.length_set, List.length_cons, List.length_nil, List.length_map, List.length_range, List.length_take, List.length_drop, List.length_zipWith] at *; omega)) rfl ?_
        intro v28 w6 hM
        try dsimp only [List.nil_append, List.cons_append, List.set_cons_zero, List.set_cons_succ, repl] at hM
        have hS := hM.toExt
        refine H.back hS ?_
        obtain ⟨c1, c2, rfl⟩ : ∃ c1 c2, v28 = .slice c1 dk.length c2 := by
          first
            | exact (by simpa using Rd.shape (hM.sl 0 rfl))
            | exact (by simpa using Rd.shape (hM.sl 1 rfl))
        refine H.take 8 rfl rfl (by kernel_rfl) (by kernel_rfl) (by kernel_rfl) hS (fun w' hS => by have hM := hM0.ext hS; exact Y.buildC (cs := [_, _, _]) [.int .i64 0, .int .i64 0, .slice none 0 0] [0, 1, 2] rfl rfl (by kernel_rfl)) rfl ?_
        refine H.only 9 rfl (by kernel_rfl) ?_
        refine E.allocM (z := .agg #[.int .i64 0, .int .i64 0, .slice none 0 0]) (cs := [.int .i64 0, .int .i64 0, .slice none 0 0]) hM (by kernel_rfl) rfl rfl ?_
        intro b7 w7 hM
        try dsimp only [List.nil_append, List.cons_append, List.set_cons_zero, List.set_cons_succ, repl] at hM
        have hS := hM.toExt
        refine H.back hS ?_
        refine H.only 10 rfl (by kernel_rfl) ?_
        first
          | refine E.storeAM 0 hM rfl rfl rfl (by kernel_rfl) rfl ?_ ?_
          | refine E.storeAM 1 hM rfl rfl rfl (by kernel_rfl) rfl ?_ ?_
          | refine E.storeAM 2 hM rfl rfl rfl (by kernel_rfl) rfl ?_ ?_
          | refine E.storeAM 3 hM rfl rfl rfl (by kernel_rfl) rfl ?_ ?_
          | refine E.storeAM 4 hM rfl rfl rfl (by kernel_rfl) rfl ?_ ?_
          | refine E.storeAM 5 hM rfl rfl rfl (by kernel_rfl) rfl ?_ ?_
          | refine E.storeAM 6 hM rfl rfl rfl (by kernel_rfl) rfl ?_ ?_
          | refine E.storeAM 7 hM rfl rfl rfl (by kernel_rfl) rfl ?_ ?_
        · exact ones (by first | rfl | exact (hM.sl 0 rfl).one | exact (hM.sl 1 rfl).one | exact (hM.sl 2 rfl).one | exact (hM.sl 3 rfl).one | exact (hM.sl 4 rfl).one | exact (hM.sl 5 rfl).one | exact (hM.sl 6 rfl).one | exact (hM.sl 7 rfl).one | exact (hM.slF 0 rfl).one | exact (hM.slF 1 rfl).one | exact (hM.slF 2 rfl).one | exact (hM.slF 3 rfl).one | exact (hM.slF 4 rfl).one | exact (hM.slF 5 rfl).one | exact (hM.slF 6 rfl).one | exact (hM.slF 7 rfl).one | exact RdL.one (by assumption) | exact RdF.one (by assumption) | assumption) <| ones (by first | rfl | exact (hM.sl 0 rfl).one | exact (hM.sl 1 rfl).one | exact (hM.sl 2 rfl).one | exact (hM.sl 3 rfl).one | exact (hM.sl 4 rfl).one | exact (hM.sl 5 rfl).one | exact (hM.sl 6 rfl).one | exact (hM.sl 7 rfl).one | exact (hM.slF 0 rfl).one | exact (hM.slF 1 rfl).one | exact (hM.slF 2 rfl).one | exact (hM.slF 3 rfl).one | exact (hM.slF 4 rfl).one | exact (hM.slF 5 rfl).one | exact (hM.slF 6 rfl).one | exact (hM.slF 7 rfl).one | exact RdL.one (by assumption) | exact RdF.one (by assumption) | assumption) <| ones (by first | rfl | exact (hM.sl 0 rfl).one | exact (hM.sl 1 rfl).one | exact (hM.sl 2 rfl).one | exact (hM.sl 3 rfl).one | exact (hM.sl 4 rfl).one | exact (hM.sl 5 rfl).one | exact (hM.sl 6 rfl).one | exact (hM.sl 7 rfl).one | exact (hM.slF 0 rfl).one | exact (hM.slF 1 rfl).one | exact (hM.slF 2 rfl).one | exact (hM.slF 3 rfl).one | exact (hM.slF 4 rfl).one | exact (hM.slF 5 rfl).one | exact (hM.slF 6 rfl).one | exact (hM.slF 7 rfl).one | exact RdL.one (by assumption) | exact RdF.one (by assumption) | assumption) <| ones_nil
        intro w8 hM
        try dsimp only [List.nil_append, List.cons_append, List.set_cons_zero, List.set_cons_succ, repl] at hM
        have hS := hM.toExt
        refine H.back hS ?_
        refine H.done (by kernel_rfl) ?_
        have hM := hM0.call hM

        refine X.join2 b7 _ (Sub.cons rfl <| Sub.nil _) rfl (hM.pick [0, 1, 2, 3, 5, 4] (by decide))
      ·
        refine E.allocM (z := .agg #[.int .i64 0, .int .i64 0, .slice none 0 0]) (cs := [.int .i64 0, .int .i64 0, .slice none 0 0]) hM (by kernel_rfl) rfl rfl ?_
        intro b7 w9 hM
        try dsimp only [List.nil_append, List.cons_append, List.set_cons_zero, List.set_cons_succ, repl] at hM
        have hS := hM.toExt
        refine H.back hS ?_
        refine H.only 7 rfl (by kernel_rfl) ?_
        refine E.makeM (by_ := 1) (enc := Value.bool) false hM rfl Try.underlying22 (by kernel_rfl) rfl (by first | omega | (simp only [List.length_replicate, List.length_append, List.length_set, List.length_cons, List.length_nil, List.length_map, List.length_range, List.length_take, List.length_drop, List.length_zipWith] at *; omega)) (by first | omega | (simp only [List.length_replicate, List.length_append, List.length_set, List.length_cons, List.length_nil, List.length_map, List.length_range, List.length_take, List.length_drop, List.length_zipWith] at *; omega)) rfl ?_
        intro v28 w10 hM
        try dsimp only [List.nil_append, List.cons_append, List.set_cons_zero, List.set_cons_succ, repl] at hM
        have hS := hM.toExt
        refine H.back hS ?_
        obtain ⟨c1, c2, rfl⟩ : ∃ c1 c2, v28 = .slice c1 dk.length c2 := by
          first
            | exact (by simpa using Rd.shape (hM.sl 0 rfl))
            | exact (by simpa using Rd.shape (hM.sl 1 rfl))
        refine H.take 8 rfl rfl (by kernel_rfl) (by kernel_rfl) (by kernel_rfl) hS (fun w' hS => by have hM := hM0.ext hS; exact Y.buildC (cs := [_, _, _]) [.int .i64 0, .int .i64 0, .slice none 0 0] [0, 1, 2] rfl rfl (by kernel_rfl)) rfl ?_
        refine H.only 10 rfl (by kernel_rfl) ?_
        first
          | refine E.storeAM 0 hM rfl rfl rfl (by kernel_rfl) rfl ?_ ?_
          | refine E.storeAM 1 hM rfl rfl rfl (by kernel_rfl) rfl ?_ ?_
          | refine E.storeAM 2 hM rfl rfl rfl (by kernel_rfl) rfl ?_ ?_
          | refine E.storeAM 3 hM rfl rfl rfl (by kernel_rfl) rfl ?_ ?_
          | refine E.storeAM 4 hM rfl rfl rfl (by kernel_rfl) rfl ?_ ?_
          | refine E.storeAM 5 hM rfl rfl rfl (by kernel_rfl) rfl ?_ ?_
          | refine E.storeAM 6 hM rfl rfl rfl (by kernel_rfl) rfl ?_ ?_
          | refine E.storeAM 7 hM rfl rfl rfl (by kernel_rfl) rfl ?_ ?_
        · exact ones (by first | rfl | exact (hM.sl 0 rfl).one | exact (hM.sl 1 rfl).one | exact (hM.sl 2 rfl).one | exact (hM.sl 3 rfl).one | exact (hM.sl 4 rfl).one | exact (hM.sl 5 rfl).one | exact (hM.sl 6 rfl).one | exact (hM.sl 7 rfl).one | exact (hM.slF 0 rfl).one | exact (hM.slF 1 rfl).one | exact (hM.slF 2 rfl).one | exact (hM.slF 3 rfl).one | exact (hM.slF 4 rfl).one | exact (hM.slF 5 rfl).one | exact (hM.slF 6 rfl).one | exact (hM.slF 7 rfl).one | exact RdL.one (by assumption) | exact RdF.one (by assumption) | assumption) <| ones (by first | rfl | exact (hM.sl 0 rfl).one | exact (hM.sl 1 rfl).one | exact (hM.sl 2 rfl).one | exact (hM.sl 3 rfl).one | exact (hM.sl 4 rfl).one | exact (hM.sl 5 rfl).one | exact (hM.sl 6 rfl).one | exact (hM.sl 7 rfl).one | exact (hM.slF 0 rfl).one | exact (hM.slF 1 rfl).one | exact (hM.slF 2 rfl).one | exact (hM.slF 3 rfl).one | exact (hM.slF 4 rfl).one | exact (hM.slF 5 rfl).one | exact (hM.slF 6 rfl).one | exact (hM.slF 7 rfl).one | exact RdL.one (by assumption) | exact RdF.one (by assumption) | assumption) <| ones (by first | rfl | exact (hM.sl 0 rfl).one | exact (hM.sl 1 rfl).one | exact (hM.sl 2 rfl).one | exact (hM.sl 3 rfl).one | exact (hM.sl 4 rfl).one | exact (hM.sl 5 rfl).one | exact (hM.sl 6 rfl).one | exact (hM.sl 7 rfl).one | exact (hM.slF 0 rfl).one | exact (hM.slF 1 rfl).one | exact (hM.slF 2 rfl).one | exact (hM.slF 3 rfl).one | exact (hM.slF 4 rfl).one | exact (hM.slF 5 rfl).one | exact (hM.slF 6 rfl).one | exact (hM.slF 7 rfl).one | exact RdL.one (by assumption) | exact RdF.one (by assumption) | assumption) <| ones_nil
        intro w11 hM
        try dsimp only [List.nil_append, List.cons_append, List.set_cons_zero, List.set_cons_succ, repl] at hM
        have hS := hM.toExt
        refine H.back hS ?_
        refine H.done (by kernel_rfl) ?_
        have hM := hM0.call hM

        refine X.join2 b7 _ (Sub.cons rfl <| Sub.nil _) rfl (hM.pick [0, 1, 2, 3, 4, 5] (by decide))
    rintro b7 vo w12 hM
    refine C.seq <| C.seq <| C.region <| E.mv rfl rfl <| ?_
    refine E.lenv rfl (Rd.shape (by first | exact hM.sl 0 rfl | exact hM.sl 1 rfl | exact hM.sl 2 rfl | exact hM.sl 3 rfl | exact hM.sl 4 rfl | exact hM.sl 5 rfl | exact hM.sl 6 rfl | exact hM.sl 7 rfl | exact hM.arg0 (by assumption) | exact hM.arg (by assumption) (by assumption) | assumption)) Try.underlying57 rfl ?_
    refine E.mv rfl rfl <| E.nil <| X.next <| C.block <| ?_

    refine C.loop1 [(2, _), (6, _), (7, _), (30, _), (31, _)] rfl (fun (i : Nat) => [(32, i64 i)]) (fun (i : Nat) w' => M w (Nn) w' [Rg.blk b1 24 [i64 a, i64 b, vd], Rg.blk b2 24 [i64 0, i64 0, nilS], Rg.sl i32 21 vs s, Rg.mp r .i32 Value.bool m0, Rg.blk b7 24 [i64 a, i64 b, vo], Rg.sl Value.bool 4 vo (tab i (fillc a b dk) ++ List.replicate (dk.length - i) false)] ∧ i ≤ dk.length) (fun (i : Nat) => dk.length - i) 0 ?_ ?_ ?_
    · exact Sub.cons rfl <| Sub.nil _
    · exact ⟨hM, Nat.zero_le _⟩
    rintro i w13 ⟨hM, hi⟩
    refine C.seq <| C.region <| E.bin rfl rfl rfl rfl <| E.nil <| X.next <| C.seq <| ?_
    refine C.cond' rfl (fun hC1 => ?_) (fun hC1 => ?_)
    ·
      have hi' : i < dk.length := by omega
      have htl : (tab i (fillc a b dk) ++ List.replicate (dk.length - i) false).length = dk.length := by rw [List.length_append, tab_len, List.length_replicate]; omega
      have hz : s[i]? = some (s[i]'(by omega)) := List.getElem?_eq_getElem (by omega)
      refine C.skip <| X.next <| C.seq <| C.block <| C.seq <| C.region <| E.mv rfl rfl <| ?_
      refine E.get (k := _) rfl rfl (by first | exact hM.sl 0 rfl | exact hM.sl 1 rfl | exact hM.sl 2 rfl | exact hM.sl 3 rfl | exact hM.sl 4 rfl | exact hM.sl 5 rfl | exact hM.sl 6 rfl | exact hM.sl 7 rfl | exact hM.arg0 (by assumption) | exact hM.arg (by assumption) (by assumption) | assumption) rfl (by first | omega | (simp only [List.length_replicate, List.length_append, List.length_set, List.length_cons, List.length_nil, List.length_map, List.length_range, List.length_take, List.length_drop, List.length_zipWith] at *; omega)) Try.underlying57 (by kernel_rfl) Try.underlying21 rfl rfl rfl ?_
      refine E.asg rfl rfl <| E.asg rfl rfl <| E.nil <| X.next <| C.region <| ?_
      refine E.fld (o := 2) (sz := 0) rfl Try.underlying24 rfl rfl (by kernel_rfl) rfl ?_
      refine E.load rfl Try.underlying22 rfl (by first | exact hM.bcell 0 rfl rfl | exact hM.bcell 1 rfl rfl | exact hM.bcell 2 rfl rfl | exact hM.bcell 3 rfl rfl | exact hM.bcell 4 rfl rfl | exact hM.bcell 5 rfl rfl | exact hM.bcell 6 rfl rfl | exact hM.bcell 7 rfl rfl) rfl ?_
      refine E.mv rfl rfl <| E.mv rfl rfl <| E.bin rfl rfl rfl rfl <| E.mv rfl rfl <| ?_
      refine E.split 42 rfl (fun g42 => ?_) (fun g42 => ?_)
      ·
        try simp only [decide_eq_true_eq, decide_eq_false_iff_not, ne_eq, Decidable.not_not] at g42
        have hd : dk[i]? = some true := (dk_cases hi').resolve_right fun h => by
          obtain ⟨q, _, hq⟩ := hP.on i h
          rw [hz] at hq
          have := Option.some.inj hq
          omega
        have hdf : fillc a b dk i = true := fillc_dark hd
        refine E.off rfl rfl rfl rfl <| E.off rfl rfl rfl rfl <| E.off rfl rfl rfl rfl <| E.pick rfl rfl rfl <| ?_
        refine E.idx1 (k := _) rfl rfl (by first | exact hM.sl 0 rfl | exact hM.sl 1 rfl | exact hM.sl 2 rfl | exact hM.sl 3 rfl | exact hM.sl 4 rfl | exact hM.sl 5 rfl | exact hM.sl 6 rfl | exact hM.sl 7 rfl | exact hM.arg0 (by assumption) | exact hM.arg (by assumption) (by assumption) | assumption) rfl (by first | omega | (simp only [List.length_replicate, List.length_append, List.length_set, List.length_cons, List.length_nil, List.length_map, List.length_range, List.length_take, List.length_drop, List.length_zipWith] at *; omega)) Try.underlying22 (by kernel_rfl) rfl ?_
        first
          | refine E.storeL 0 _ hM rfl rfl rfl (by kernel_rfl) rfl rfl ?_ ?_
          | refine E.storeL 1 _ hM rfl rfl rfl (by kernel_rfl) rfl rfl ?_ ?_
          | refine E.storeL 2 _ hM rfl rfl rfl (by kernel_rfl) rfl rfl ?_ ?_
          | refine E.storeL 3 _ hM rfl rfl rfl (by kernel_rfl) rfl rfl ?_ ?_
          | refine E.storeL 4 _ hM rfl rfl rfl (by kernel_rfl) rfl rfl ?_ ?_
          | refine E.storeL 5 _ hM rfl rfl rfl (by kernel_rfl) rfl rfl ?_ ?_
          | refine E.storeL 6 _ hM rfl rfl rfl (by kernel_rfl) rfl rfl ?_ ?_
          | refine E.storeL 7 _ hM rfl rfl rfl (by kernel_rfl) rfl rfl ?_ ?_
        · exact (by first | omega | (simp only [List.length_replicate, List.length_append, List.length_set, List.length_cons, List.length_nil, List.length_map, List.length_range, List.length_take, List.length_drop, List.length_zipWith] at *; omega))
        intro w14 hM
        try dsimp only [List.nil_append, List.cons_append, List.set_cons_zero, List.set_cons_succ, repl] at hM
        refine E.nil <| X.outN <| X.next <| C.region <| ?_
        refine E.add rfl rfl (by omega) rfl ?_

        refine E.mv rfl rfl <| E.nil <| X.again1 (i + 1) (Sub.cons rfl <| Sub.nil _) rfl ⟨by rw [← tab_set hi', hdf]; exact hM, by omega⟩ (by omega)
      ·
        try simp only [decide_eq_true_eq, decide_eq_false_iff_not, ne_eq, Decidable.not_not] at g42
        have hd : dk[i]? = some false := (dk_cases hi').resolve_left fun h => g42 (by have := hP.off i h; rw [hz] at this; exact Option.some.inj this)
        have hdf : fillc a b dk i = decide (Hol a b dk i) := fillc_light hd
        have hlk := hI.look hP hd hz
        refine E.on rfl rfl (E.mv rfl rfl ?_)
        refine E.on rfl rfl (E.mv rfl rfl ?_)
        refine E.on rfl rfl (E.lookup1 (z := .bool false) rfl rfl Try.underlying64 Try.underlying21 (by kernel_rfl) (by first | exact hM.mp 0 rfl | exact hM.mp 1 rfl | exact hM.mp 2 rfl | exact hM.mp 3 rfl | exact hM.mp 4 rfl | exact hM.mp 5 rfl | exact hM.mp 6 rfl | exact hM.mp 7 rfl) rfl ?_)
        rw [hlk]
        refine E.pick rfl rfl rfl <| ?_
        refine E.idx1 (k := _) rfl rfl (by first | exact hM.sl 0 rfl | exact hM.sl 1 rfl | exact hM.sl 2 rfl | exact hM.sl 3 rfl | exact hM.sl 4 rfl | exact hM.sl 5 rfl | exact hM.sl 6 rfl | exact hM.sl 7 rfl | exact hM.arg0 (by assumption) | exact hM.arg (by assumption) (by assumption) | assumption) rfl (by first | omega | (simp only [List.length_replicate, List.length_append, List.length_set, List.length_cons, List.length_nil, List.length_map, List.length_range, List.length_take, List.length_drop, List.length_zipWith] at *; omega)) Try.underlying22 (by kernel_rfl) rfl ?_
        first
          | refine E.storeL 0 _ hM rfl rfl rfl (by kernel_rfl) rfl rfl ?_ ?_
          | refine E.storeL 1 _ hM rfl rfl rfl (by kernel_rfl) rfl rfl ?_ ?_
          | refine E.storeL 2 _ hM rfl rfl rfl (by kernel_rfl) rfl rfl ?_ ?_
          | refine E.storeL 3 _ hM rfl rfl rfl (by kernel_rfl) rfl rfl ?_ ?_
          | refine E.storeL 4 _ hM rfl rfl rfl (by kernel_rfl) rfl rfl ?_ ?_
          | refine E.storeL 5 _ hM rfl rfl rfl (by kernel_rfl) rfl rfl ?_ ?_
          | refine E.storeL 6 _ hM rfl rfl rfl (by kernel_rfl) rfl rfl ?_ ?_
          | refine E.storeL 7 _ hM rfl rfl rfl (by kernel_rfl) rfl rfl ?_ ?_
        · exact (by first | omega | (simp only [List.length_replicate, List.length_append, List.length_set, List.length_cons, List.length_nil, List.length_map, List.length_range, List.length_take, List.length_drop, List.length_zipWith] at *; omega))
        intro w15 hM
        try dsimp only [List.nil_append, List.cons_append, List.set_cons_zero, List.set_cons_succ, repl] at hM
        refine E.nil <| X.outN <| X.next <| C.region <| ?_
        refine E.add rfl rfl (by omega) rfl ?_

        refine E.mv rfl rfl <| E.nil <| X.again1 (i + 1) (Sub.cons rfl <| Sub.nil _) rfl ⟨by rw [← tab_set hi', hdf]; exact hM, by omega⟩ (by omega)
    ·
      obtain rfl : i = dk.length := by omega
      rw [Nat.sub_self, List.replicate_zero, List.append_nil] at hM
      refine C.exit <| X.exitT <| X.exitT <| X.outE <| X.next <| C.seq <| C.region <| ?_
      refine E.loadA rfl Try.underlying24 rfl (by kernel_rfl) (by first | exact hM.bat 0 rfl | exact hM.bat 1 rfl | exact hM.bat 2 rfl | exact hM.bat 3 rfl | exact hM.bat 4 rfl | exact hM.bat 5 rfl | exact hM.bat 6 rfl | exact hM.bat 7 rfl) rfl ?_
      first
        | refine E.storeAM 0 hM rfl rfl rfl (by kernel_rfl) rfl ?_ ?_
        | refine E.storeAM 1 hM rfl rfl rfl (by kernel_rfl) rfl ?_ ?_
        | refine E.storeAM 2 hM rfl rfl rfl (by kernel_rfl) rfl ?_ ?_
        | refine E.storeAM 3 hM rfl rfl rfl (by kernel_rfl) rfl ?_ ?_
        | refine E.storeAM 4 hM rfl rfl rfl (by kernel_rfl) rfl ?_ ?_
        | refine E.storeAM 5 hM rfl rfl rfl (by kernel_rfl) rfl ?_ ?_
        | refine E.storeAM 6 hM rfl rfl rfl (by kernel_rfl) rfl ?_ ?_
        | refine E.storeAM 7 hM rfl rfl rfl (by kernel_rfl) rfl ?_ ?_
      · exact ones (by first | rfl | exact (hM.sl 0 rfl).one | exact (hM.sl 1 rfl).one | exact (hM.sl 2 rfl).one | exact (hM.sl 3 rfl).one | exact (hM.sl 4 rfl).one | exact (hM.sl 5 rfl).one | exact (hM.sl 6 rfl).one | exact (hM.sl 7 rfl).one | exact (hM.slF 0 rfl).one | exact (hM.slF 1 rfl).one | exact (hM.slF 2 rfl).one | exact (hM.slF 3 rfl).one | exact (hM.slF 4 rfl).one | exact (hM.slF 5 rfl).one | exact (hM.slF 6 rfl).one | exact (hM.slF 7 rfl).one | exact RdL.one (by assumption) | exact RdF.one (by assumption) | assumption) <| ones (by first | rfl | exact (hM.sl 0 rfl).one | exact (hM.sl 1 rfl).one | exact (hM.sl 2 rfl).one | exact (hM.sl 3 rfl).one | exact (hM.sl 4 rfl).one | exact (hM.sl 5 rfl).one | exact (hM.sl 6 rfl).one | exact (hM.sl 7 rfl).one | exact (hM.slF 0 rfl).one | exact (hM.slF 1 rfl).one | exact (hM.slF 2 rfl).one | exact (hM.slF 3 rfl).one | exact (hM.slF 4 rfl).one | exact (hM.slF 5 rfl).one | exact (hM.slF 6 rfl).one | exact (hM.slF 7 rfl).one | exact RdL.one (by assumption) | exact RdF.one (by assumption) | assumption) <| ones (by first | rfl | exact (hM.sl 0 rfl).one | exact (hM.sl 1 rfl).one | exact (hM.sl 2 rfl).one | exact (hM.sl 3 rfl).one | exact (hM.sl 4 rfl).one | exact (hM.sl 5 rfl).one | exact (hM.sl 6 rfl).one | exact (hM.sl 7 rfl).one | exact (hM.slF 0 rfl).one | exact (hM.slF 1 rfl).one | exact (hM.slF 2 rfl).one | exact (hM.slF 3 rfl).one | exact (hM.slF 4 rfl).one | exact (hM.slF 5 rfl).one | exact (hM.slF 6 rfl).one | exact (hM.slF 7 rfl).one | exact RdL.one (by assumption) | exact RdF.one (by assumption) | assumption) <| ones_nil
      intro w16 hM
      try dsimp only [List.nil_append, List.cons_append, List.set_cons_zero, List.set_cons_succ, repl] at hM
      refine E.asg rfl rfl <| E.nil <| X.next <| C.ret <| retAT rfl rfl rfl Try.underlying24 rfl (by first | exact hM.blk 0 rfl | exact hM.blk 1 rfl | exact hM.blk 2 rfl | exact hM.blk 3 rfl | exact hM.blk 4 rfl | exact hM.blk 5 rfl | exact hM.blk 6 rfl | exact hM.blk 7 rfl) (by kernel_rfl) ?_
      exact ⟨_, _, _, _, _, rfl, .inr ⟨hok, rfl, rfl, rfl, rfl⟩, hM.pick [5] (by decide)⟩

set_option maxHeartbeats 1000000 in
theorem Euler_ret (W Ht : Int) (vd : Value) (dk : List Bool) (w : World) (hr : RdL Value.bool w vd dk) :
    Ret Try.prog 22 #[mat W Ht vd] w fun v w' => ∃ k e, v = .tuple #[i64 k, i64 e] ∧ EulSp W Ht dk k e ∧ M w Nn w' [] := by
  have hM := M.start w
  refine enter Try.func22 rfl (by kernel_rfl) Try.ntmps22 rfl ?_
  refine C.seq <| C.region <| ?_
  refine E.boxM hM rfl rfl rfl ?_
  intro b1 w0 hM
  try dsimp only [List.nil_append, List.cons_append, List.set_cons_zero, List.set_cons_succ, repl] at hM
  refine E.asg rfl rfl <| E.asg rfl rfl <| E.nil <| X.next <| C.seq <| C.region <| ?_
  refine E.loadA rfl Try.underlying24 rfl (by kernel_rfl) (by first | exact hM.bat 0 rfl | exact hM.bat 1 rfl | exact hM.bat 2 rfl | exact hM.bat 3 rfl | exact hM.bat 4 rfl | exact hM.bat 5 rfl | exact hM.bat 6 rfl | exact hM.bat 7 rfl) rfl ?_
  refine E.call rfl rfl (Label_ret W Ht vd dk true _ (hM.arg0 hr)) ?_
  rintro _ w10 ⟨hA, x10⟩
  obtain ⟨va, vb, lab, bl, e, rfl, m, hA⟩ := hA.uni x10
  have hM := hM.call m
  try dsimp only [List.nil_append, List.cons_append, List.set_cons_zero, List.set_cons_succ, repl] at hM
  refine E.mv rfl rfl <| E.ext rfl rfl rfl <| E.ext rfl rfl rfl <| E.ext rfl rfl rfl <| E.asg rfl rfl <| E.asg rfl rfl <| E.asg rfl rfl <| E.nil <| X.next <| C.seq <| C.seq <| C.region <| E.mv rfl rfl <| E.bin rfl rfl rfl rfl <| E.nil <| X.next <| ?_
  refine C.cond' rfl (fun hC0 => ?_) (fun hC0 => ?_)
  ·
    refine C.seq <| C.region <| E.mv rfl rfl <| E.asg rfl rfl <| E.asg rfl rfl <| E.nil <| X.next <| C.ret <| X.retT <| ret2 rfl rfl rfl ?_
    have hA' : EulSp W Ht dk 0 e := by
      rcases hA with ⟨h, h1, _⟩ | ⟨h, h1, h2, _⟩ | ⟨_, _, h, _⟩
      · exact .inl ⟨h, rfl, h1⟩
      · exact .inr (.inl ⟨h, h1, rfl, h2⟩)
      · exact (hC0 h).elim
    exact ⟨_, _, rfl, hA', hM.pick [] (by decide)⟩
  ·
    have hA' : okMat W Ht dk.length ∧ nf (DD dk true) (RR W.toNat true dk true) dk.length ≤ 65536 ∧ e = 0 ∧ Labelled (DD dk true) (RR W.toNat true dk true) W.toNat dk.length lab bl := by
      rcases hA with ⟨_, h, _⟩ | ⟨_, _, h, _⟩ | h
      · omega
      · omega
      · exact h
    obtain ⟨hok, hfew, rfl, hL⟩ := hA'
    obtain ⟨a, b, rfl, rfl, hW, hH, hn, hn0⟩ := hok.nat
    refine C.skip <| X.next <| C.seq <| C.region <| ?_
    refine E.loadA rfl Try.underlying24 rfl (by kernel_rfl) (by first | exact hM.bat 0 rfl | exact hM.bat 1 rfl | exact hM.bat 2 rfl | exact hM.bat 3 rfl | exact hM.bat 4 rfl | exact hM.bat 5 rfl | exact hM.bat 6 rfl | exact hM.bat 7 rfl) rfl ?_
    refine E.call rfl rfl (holes_ret a b vd dk _ (hM.arg0 hr) hW hH hn hn0) ?_
    rintro _ w10 ⟨vs, r, s, m0, rfl, hP, hI, m⟩
    have hM := hM.call m
    try dsimp only [List.nil_append, List.cons_append, List.set_cons_zero, List.set_cons_succ, repl] at hM
    have hc := hI.count hP
    have hnh := nh_le a b dk
    have hnum := hL.num
    refine E.mv rfl rfl <| E.ext rfl rfl rfl <| E.ext rfl rfl rfl <| E.asg rfl rfl <| E.asg rfl rfl <| E.nil <| X.next <| C.seq <| C.region <| E.mv rfl rfl <| ?_
    refine E.lenv rfl (RdF.shape (by first | exact hM.slF 0 rfl | exact hM.slF 1 rfl | exact hM.slF 2 rfl | exact hM.slF 3 rfl | exact hM.slF 4 rfl | exact hM.slF 5 rfl | exact hM.slF 6 rfl | exact hM.slF 7 rfl | exact hM.argF0 (by assumption) | exact hM.argF (by assumption) (by assumption) | assumption)) Try.underlying28 rfl ?_
    refine E.mv rfl rfl <| ?_
    refine E.lenM rfl Try.underlying64 (by first | exact hM.mp 0 rfl | exact hM.mp 1 rfl | exact hM.mp 2 rfl | exact hM.mp 3 rfl | exact hM.mp 4 rfl | exact hM.mp 5 rfl | exact hM.mp 6 rfl | exact hM.mp 7 rfl) rfl ?_
    refine E.sub' rfl rfl (by omega) rfl ?_
    refine E.asg rfl rfl <| E.asg rfl rfl <| E.nil <| X.next <| C.ret <| ret2 rfl rfl rfl ?_
    exact ⟨_, _, rfl, .inr (.inr ⟨hok, hfew, rfl, by rw [hnum, hc]; rfl⟩), hM.pick [] (by decide)⟩

end Go.Proofs.Ytnnmebpahickhaa
