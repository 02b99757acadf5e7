/- Texts of the claim, laid together: Ext. -/
import Derived.Test.YtnnmebpahickhaaComponentsSymmetricTopMg19
import Derived.Test.YtnnmebpahickhaaComponentsSymmetricTopMg20
/- components: Extract. -/
namespace Go.Proofs.Ytnnmebpahickhaa
set_option linter.unusedSimpArgs false
set_option linter.unusedVariables false
open Go.RowKit Sym Uf

set_option maxHeartbeats 4000000 in
theorem Extract_ret (W Ht : Int) (vd vl : Value) (n : Nat) (labels : List Int) (bx by_ bw bh ar fx fy num : Int) (w : World) (hv : ∃ c cap, vd = .slice c n cap) (hr : RdL i64 w vl labels) :
    Ret Try.prog 32 #[mat W Ht vd, vl, .agg #[i64 bx, i64 by_, i64 bw, i64 bh, i64 ar, i64 fx, i64 fy], i64 num] w fun v w' => MatAns (ExtSp W Ht n labels bx by_ bw bh num) v w w' := by
  obtain ⟨c0, cap0, rfl⟩ := hv
  have hM := M.start w
  refine enter Try.func32 rfl (by kernel_rfl) Try.ntmps32 rfl ?_
  refine C.seq <| C.region <| ?_
  refine E.boxM hM rfl rfl rfl ?_
  intro b4 w0 hM
  try dsimp only [List.nil_append, List.cons_append, List.set_cons_zero, List.set_cons_succ, repl] at hM
  refine E.boxM hM rfl rfl rfl ?_
  intro b6 w1 hM
  try dsimp only [List.nil_append, List.cons_append, List.set_cons_zero, List.set_cons_succ, repl] at hM
  refine E.allocM (z := .agg #[.int .i64 0, .int .i64 0, .slice none 0 0]) (cs := [.int .i64 0, .int .i64 0, .slice none 0 0]) hM (by kernel_rfl) rfl rfl ?_
  intro b8 w2 hM
  try dsimp only [List.nil_append, List.cons_append, List.set_cons_zero, List.set_cons_succ, repl] at hM
  refine E.asg rfl rfl <| E.nil <| X.next <| C.seq <| ?_

  refine C.cut0 [(1, _), (3, _), (4, _), (6, _), (8, _)] rfl [(26, .bool (decide (¬ (okMat W Ht n ∧ (labels.length : Int) = W * Ht))))] (fun w' => M w (Nn) w' [Rg.blk b4 24 [i64 W, i64 Ht, .slice c0 n cap0], Rg.blk b6 38 [i64 bx, i64 by_, i64 bw, i64 bh, i64 ar, i64 fx, i64 fy], Rg.blk b8 24 [i64 0, i64 0, nilS]]) ?_ ?_
  ·
    refine C.region <| ?_
    refine E.loadA rfl Try.underlying24 rfl (by kernel_rfl) (by first | exact hM.bat 0 rfl | exact hM.bat 1 rfl | exact hM.bat 2 rfl | exact hM.bat 3 rfl | exact hM.bat 4 rfl | exact hM.bat 5 rfl | exact hM.bat 6 rfl | exact hM.bat 7 rfl) rfl ?_
    refine E.call rfl rfl (Check_ret W Ht _ n _ ⟨_, _, rfl⟩) ?_
    rintro _ w9 ⟨rfl, x9⟩
    have hM := hM.ext x9
    try dsimp only [List.nil_append, List.cons_append, List.set_cons_zero, List.set_cons_succ, repl] at hM
    refine E.bin rfl rfl rfl rfl <| E.mv rfl rfl <| ?_
    refine E.split 17 rfl (fun g17 => ?_) (fun g17 => ?_)
    ·
      try simp only [decide_eq_true_eq, decide_eq_false_iff_not, ne_eq, Decidable.not_not] at g17
      have hno : ¬ okMat W Ht n := fun h => by rw [if_pos h] at g17; exact g17 rfl

      refine E.off rfl rfl rfl rfl <| E.off rfl rfl rfl rfl <| E.off rfl rfl rfl rfl <| E.off rfl rfl rfl rfl <| E.off rfl rfl rfl rfl <| E.off rfl rfl rfl rfl <| E.off rfl rfl rfl rfl <| E.off rfl rfl rfl rfl <| E.pick rfl rfl rfl <| E.nil <| X.join0  (Sub.cons (by (first | exact leaf_f (by omega) | exact leaf_t (by omega) | exact leaf_d (by omega) | exact leaf_f (by first | (simp [*] <;> fail) | omega) | exact leaf_t (by first | (simp [*] <;> fail) | omega) | exact leaf_d (by first | (simp [*] <;> fail) | omega) | exact leaf_f (by (first | omega | ((try simp only [decide_eq_true_eq, decide_eq_false_iff_not, Bool.not_eq_true', Bool.not_eq_false'] at *); first | omega | (simp_all <;> fail) | (simp_all; omega)))) | exact leaf_t (by (first | omega | ((try simp only [decide_eq_true_eq, decide_eq_false_iff_not, Bool.not_eq_true', Bool.not_eq_false'] at *); first | omega | (simp_all <;> fail) | (simp_all; omega)))) | exact leaf_d (by (first | omega | ((try simp only [decide_eq_true_eq, decide_eq_false_iff_not, Bool.not_eq_true', Bool.not_eq_false'] at *); first | omega | (simp_all <;> fail) | (simp_all; omega)))))) <| Sub.nil _) rfl hM
    ·
      try simp only [decide_eq_true_eq, decide_eq_false_iff_not, ne_eq, Decidable.not_not] at g17
      have hok' : okMat W Ht n := Decidable.byContradiction fun h => by rw [if_neg h] at g17; omega
      obtain ⟨h1, h2, h3, h4, h5⟩ := hok'.1
      have h6 := mul_small h1 h2 h3 h4
      refine E.on rfl rfl (E.mv rfl rfl ?_)
      refine E.on rfl rfl (E.lenv rfl (Rd.shape (by first | exact hM.sl 0 rfl | exact hM.sl 1 rfl | exact hM.sl 2 rfl | exact hM.sl 3 rfl | exact hM.sl 4 rfl | exact hM.sl 5 rfl | exact hM.sl 6 rfl | exact hM.sl 7 rfl | exact hM.arg0 (by assumption) | exact hM.arg (by assumption) (by assumption) | assumption)) Try.underlying27 rfl ?_)
      refine E.on rfl rfl (E.fld (o := 0) (sz := 0) rfl Try.underlying24 rfl rfl (by kernel_rfl) rfl ?_)
      refine E.on rfl rfl (E.load rfl Try.underlying3 rfl (by first | exact hM.bcell 0 rfl rfl | exact hM.bcell 1 rfl rfl | exact hM.bcell 2 rfl rfl | exact hM.bcell 3 rfl rfl | exact hM.bcell 4 rfl rfl | exact hM.bcell 5 rfl rfl | exact hM.bcell 6 rfl rfl | exact hM.bcell 7 rfl rfl) rfl ?_)
      refine E.on rfl rfl (E.fld (o := 1) (sz := 0) rfl Try.underlying24 rfl rfl (by kernel_rfl) rfl ?_)
      refine E.on rfl rfl (E.load rfl Try.underlying3 rfl (by first | exact hM.bcell 0 rfl rfl | exact hM.bcell 1 rfl rfl | exact hM.bcell 2 rfl rfl | exact hM.bcell 3 rfl rfl | exact hM.bcell 4 rfl rfl | exact hM.bcell 5 rfl rfl | exact hM.bcell 6 rfl rfl | exact hM.bcell 7 rfl rfl) rfl ?_)
      refine E.on rfl rfl (E.mul rfl rfl (by omega) rfl ?_)
      refine E.on rfl rfl (E.bin rfl rfl rfl rfl ?_)

      refine E.pick rfl rfl rfl <| E.nil <| X.join0  (Sub.cons (by (first | exact leaf_f (by omega) | exact leaf_t (by omega) | exact leaf_d (by omega) | exact leaf_f (by first | (simp [*] <;> fail) | omega) | exact leaf_t (by first | (simp [*] <;> fail) | omega) | exact leaf_d (by first | (simp [*] <;> fail) | omega) | exact leaf_f (by (first | omega | ((try simp only [decide_eq_true_eq, decide_eq_false_iff_not, Bool.not_eq_true', Bool.not_eq_false'] at *); first | omega | (simp_all <;> fail) | (simp_all; omega)))) | exact leaf_t (by (first | omega | ((try simp only [decide_eq_true_eq, decide_eq_false_iff_not, Bool.not_eq_true', Bool.not_eq_false'] at *); first | omega | (simp_all <;> fail) | (simp_all; omega)))) | exact leaf_d (by (first | omega | ((try simp only [decide_eq_true_eq, decide_eq_false_iff_not, Bool.not_eq_true', Bool.not_eq_false'] at *); first | omega | (simp_all <;> fail) | (simp_all; omega)))))) <| Sub.nil _) rfl hM
  rintro  w4 hM
  refine C.cond' rfl (fun hC0 => ?_) (fun hC0 => ?_)
  ·
    refine C.seq <| C.region <| ?_
    refine E.buildC (cs := [_, _, _]) [.int .i64 0, .int .i64 0, .slice none 0 0] [] rfl rfl (by kernel_rfl) rfl ?_
    first
      | refine E.storeAM 0 hM rfl rfl rfl (by kernel_rfl) rfl ?_ ?_
      | refine E.storeAM 1 hM rfl rfl rfl (by kernel_rfl) rfl ?_ ?_
      | refine E.storeAM 2 hM rfl rfl rfl (by kernel_rfl) rfl ?_ ?_
      | refine E.storeAM 3 hM rfl rfl rfl (by kernel_rfl) rfl ?_ ?_
      | refine E.storeAM 4 hM rfl rfl rfl (by kernel_rfl) rfl ?_ ?_
      | refine E.storeAM 5 hM rfl rfl rfl (by kernel_rfl) rfl ?_ ?_
      | refine E.storeAM 6 hM rfl rfl rfl (by kernel_rfl) rfl ?_ ?_
      | refine E.storeAM 7 hM rfl rfl rfl (by kernel_rfl) rfl ?_ ?_
    · exact ones (by first | rfl | exact (hM.sl 0 rfl).one | exact (hM.sl 1 rfl).one | exact (hM.sl 2 rfl).one | exact (hM.sl 3 rfl).one | exact (hM.sl 4 rfl).one | exact (hM.sl 5 rfl).one | exact (hM.sl 6 rfl).one | exact (hM.sl 7 rfl).one | exact (hM.slF 0 rfl).one | exact (hM.slF 1 rfl).one | exact (hM.slF 2 rfl).one | exact (hM.slF 3 rfl).one | exact (hM.slF 4 rfl).one | exact (hM.slF 5 rfl).one | exact (hM.slF 6 rfl).one | exact (hM.slF 7 rfl).one | exact RdL.one (by assumption) | exact RdF.one (by assumption) | assumption) <| ones (by first | rfl | exact (hM.sl 0 rfl).one | exact (hM.sl 1 rfl).one | exact (hM.sl 2 rfl).one | exact (hM.sl 3 rfl).one | exact (hM.sl 4 rfl).one | exact (hM.sl 5 rfl).one | exact (hM.sl 6 rfl).one | exact (hM.sl 7 rfl).one | exact (hM.slF 0 rfl).one | exact (hM.slF 1 rfl).one | exact (hM.slF 2 rfl).one | exact (hM.slF 3 rfl).one | exact (hM.slF 4 rfl).one | exact (hM.slF 5 rfl).one | exact (hM.slF 6 rfl).one | exact (hM.slF 7 rfl).one | exact RdL.one (by assumption) | exact RdF.one (by assumption) | assumption) <| ones (by first | rfl | exact (hM.sl 0 rfl).one | exact (hM.sl 1 rfl).one | exact (hM.sl 2 rfl).one | exact (hM.sl 3 rfl).one | exact (hM.sl 4 rfl).one | exact (hM.sl 5 rfl).one | exact (hM.sl 6 rfl).one | exact (hM.sl 7 rfl).one | exact (hM.slF 0 rfl).one | exact (hM.slF 1 rfl).one | exact (hM.slF 2 rfl).one | exact (hM.slF 3 rfl).one | exact (hM.slF 4 rfl).one | exact (hM.slF 5 rfl).one | exact (hM.slF 6 rfl).one | exact (hM.slF 7 rfl).one | exact RdL.one (by assumption) | exact RdF.one (by assumption) | assumption) <| ones_nil
    intro w5 hM
    try dsimp only [List.nil_append, List.cons_append, List.set_cons_zero, List.set_cons_succ, repl] at hM
    refine E.asg rfl rfl <| E.nil <| X.next <| C.ret <| X.retT <| retAT rfl rfl rfl Try.underlying24 rfl (by first | exact hM.blk 0 rfl | exact hM.blk 1 rfl | exact hM.blk 2 rfl | exact hM.blk 3 rfl | exact hM.blk 4 rfl | exact hM.blk 5 rfl | exact hM.blk 6 rfl | exact hM.blk 7 rfl) (by kernel_rfl) ?_
    exact ⟨_, _, _, [], _, rfl, .inl ⟨hC0, rfl, rfl, rfl, rfl⟩, (hM.nil Value.bool 4).pick [3] (by decide)⟩
  ·
    have hok : okMat W Ht n ∧ (labels.length : Int) = W * Ht := Decidable.byContradiction hC0
    obtain ⟨a, b, rfl, rfl, hW, hH, hn, hn0⟩ := hok.1.nat
    refine C.skip <| X.next <| C.seq <| C.region <| ?_
    refine E.fld (o := 0) (sz := 3) rfl Try.underlying38 rfl rfl (by kernel_rfl) rfl ?_
    refine E.loadA rfl Try.underlying34 rfl (by kernel_rfl) (by first | exact hM.bsub (n := 4) 0 rfl | exact hM.bsub (n := 4) 1 rfl | exact hM.bsub (n := 4) 2 rfl | exact hM.bsub (n := 4) 3 rfl | exact hM.bsub (n := 4) 4 rfl | exact hM.bsub (n := 4) 5 rfl | exact hM.bsub (n := 4) 6 rfl | exact hM.bsub (n := 4) 7 rfl) rfl ?_
    refine E.allocM (z := .agg #[.int .i64 0, .int .i64 0, .int .i64 0, .int .i64 0]) (cs := [.int .i64 0, .int .i64 0, .int .i64 0, .int .i64 0]) hM (by kernel_rfl) rfl rfl ?_
    intro b10 w6 hM
    try dsimp only [List.nil_append, List.cons_append, List.set_cons_zero, List.set_cons_succ, repl] at hM
    first
      | refine E.storeAM 0 hM rfl rfl rfl (by kernel_rfl) rfl ?_ ?_
      | refine E.storeAM 1 hM rfl rfl rfl (by kernel_rfl) rfl ?_ ?_
      | refine E.storeAM 2 hM rfl rfl rfl (by kernel_rfl) rfl ?_ ?_
      | refine E.storeAM 3 hM rfl rfl rfl (by kernel_rfl) rfl ?_ ?_
      | refine E.storeAM 4 hM rfl rfl rfl (by kernel_rfl) rfl ?_ ?_
      | refine E.storeAM 5 hM rfl rfl rfl (by kernel_rfl) rfl ?_ ?_
      | refine E.storeAM 6 hM rfl rfl rfl (by kernel_rfl) rfl ?_ ?_
      | refine E.storeAM 7 hM rfl rfl rfl (by kernel_rfl) rfl ?_ ?_
    · exact ones (by first | rfl | exact (hM.sl 0 rfl).one | exact (hM.sl 1 rfl).one | exact (hM.sl 2 rfl).one | exact (hM.sl 3 rfl).one | exact (hM.sl 4 rfl).one | exact (hM.sl 5 rfl).one | exact (hM.sl 6 rfl).one | exact (hM.sl 7 rfl).one | exact (hM.slF 0 rfl).one | exact (hM.slF 1 rfl).one | exact (hM.slF 2 rfl).one | exact (hM.slF 3 rfl).one | exact (hM.slF 4 rfl).one | exact (hM.slF 5 rfl).one | exact (hM.slF 6 rfl).one | exact (hM.slF 7 rfl).one | exact RdL.one (by assumption) | exact RdF.one (by assumption) | assumption) <| ones (by first | rfl | exact (hM.sl 0 rfl).one | exact (hM.sl 1 rfl).one | exact (hM.sl 2 rfl).one | exact (hM.sl 3 rfl).one | exact (hM.sl 4 rfl).one | exact (hM.sl 5 rfl).one | exact (hM.sl 6 rfl).one | exact (hM.sl 7 rfl).one | exact (hM.slF 0 rfl).one | exact (hM.slF 1 rfl).one | exact (hM.slF 2 rfl).one | exact (hM.slF 3 rfl).one | exact (hM.slF 4 rfl).one | exact (hM.slF 5 rfl).one | exact (hM.slF 6 rfl).one | exact (hM.slF 7 rfl).one | exact RdL.one (by assumption) | exact RdF.one (by assumption) | assumption) <| ones (by first | rfl | exact (hM.sl 0 rfl).one | exact (hM.sl 1 rfl).one | exact (hM.sl 2 rfl).one | exact (hM.sl 3 rfl).one | exact (hM.sl 4 rfl).one | exact (hM.sl 5 rfl).one | exact (hM.sl 6 rfl).one | exact (hM.sl 7 rfl).one | exact (hM.slF 0 rfl).one | exact (hM.slF 1 rfl).one | exact (hM.slF 2 rfl).one | exact (hM.slF 3 rfl).one | exact (hM.slF 4 rfl).one | exact (hM.slF 5 rfl).one | exact (hM.slF 6 rfl).one | exact (hM.slF 7 rfl).one | exact RdL.one (by assumption) | exact RdF.one (by assumption) | assumption) <| ones (by first | rfl | exact (hM.sl 0 rfl).one | exact (hM.sl 1 rfl).one | exact (hM.sl 2 rfl).one | exact (hM.sl 3 rfl).one | exact (hM.sl 4 rfl).one | exact (hM.sl 5 rfl).one | exact (hM.sl 6 rfl).one | exact (hM.sl 7 rfl).one | exact (hM.slF 0 rfl).one | exact (hM.slF 1 rfl).one | exact (hM.slF 2 rfl).one | exact (hM.slF 3 rfl).one | exact (hM.slF 4 rfl).one | exact (hM.slF 5 rfl).one | exact (hM.slF 6 rfl).one | exact (hM.slF 7 rfl).one | exact RdL.one (by assumption) | exact RdF.one (by assumption) | assumption) <| ones_nil
    intro w7 hM
    try dsimp only [List.nil_append, List.cons_append, List.set_cons_zero, List.set_cons_succ, repl] at hM
    refine E.nil <| X.next <| C.seq <| ?_

    refine C.chainE [(1, _), (3, _), (4, _), (8, _), (10, _)] rfl [(51, .bool (decide (bw < 1 ∨ (a : Int) < bw ∨ bh < 1 ∨ (b : Int) < bh)))] ?_ ?_
    ·
      refine C.region <| ?_
      refine E.fld (o := 2) (sz := 0) rfl Try.underlying34 rfl rfl (by kernel_rfl) rfl ?_
      refine E.load rfl Try.underlying3 rfl (by first | exact hM.bcell 0 rfl rfl | exact hM.bcell 1 rfl rfl | exact hM.bcell 2 rfl rfl | exact hM.bcell 3 rfl rfl | exact hM.bcell 4 rfl rfl | exact hM.bcell 5 rfl rfl | exact hM.bcell 6 rfl rfl | exact hM.bcell 7 rfl rfl) rfl ?_
      refine E.bin rfl rfl rfl rfl <| E.mv rfl rfl <| ?_
      refine E.split 33 rfl (fun g33 => ?_) (fun g33 => ?_)
      ·
        try simp only [decide_eq_true_eq, decide_eq_false_iff_not, ne_eq, Decidable.not_not] at g33
        refine E.off rfl rfl rfl rfl <| E.off rfl rfl rfl rfl <| E.off rfl rfl rfl rfl <| E.off rfl rfl rfl rfl <| E.off rfl rfl rfl rfl <| E.pick rfl rfl rfl <| E.mv rfl rfl <| E.off rfl rfl rfl rfl <| E.off rfl rfl rfl rfl <| E.off rfl rfl rfl rfl <| E.pick rfl rfl rfl <| E.mv rfl rfl <| E.off rfl rfl rfl rfl <| E.off rfl rfl rfl rfl <| E.off rfl rfl rfl rfl <| E.off rfl rfl rfl rfl <| E.off rfl rfl rfl rfl <| E.pick rfl rfl rfl <| E.nil <| X.join0 (Sub.cons (by (first | exact leaf_f (by omega) | exact leaf_t (by omega) | exact leaf_d (by omega) | exact leaf_f (by first | (simp [*] <;> fail) | omega) | exact leaf_t (by first | (simp [*] <;> fail) | omega) | exact leaf_d (by first | (simp [*] <;> fail) | omega) | exact leaf_f (by (first | omega | ((try simp only [decide_eq_true_eq, decide_eq_false_iff_not, Bool.not_eq_true', Bool.not_eq_false'] at *); first | omega | (simp_all <;> fail) | (simp_all; omega)))) | exact leaf_t (by (first | omega | ((try simp only [decide_eq_true_eq, decide_eq_false_iff_not, Bool.not_eq_true', Bool.not_eq_false'] at *); first | omega | (simp_all <;> fail) | (simp_all; omega)))) | exact leaf_d (by (first | omega | ((try simp only [decide_eq_true_eq, decide_eq_false_iff_not, Bool.not_eq_true', Bool.not_eq_false'] at *); first | omega | (simp_all <;> fail) | (simp_all; omega)))))) <| Sub.nil _) rfl rfl
      ·
        try simp only [decide_eq_true_eq, decide_eq_false_iff_not, ne_eq, Decidable.not_not] at g33
        refine E.on rfl rfl (E.fld (o := 2) (sz := 0) rfl Try.underlying34 rfl rfl (by kernel_rfl) rfl ?_)
        refine E.on rfl rfl (E.load rfl Try.underlying3 rfl (by first | exact hM.bcell 0 rfl rfl | exact hM.bcell 1 rfl rfl | exact hM.bcell 2 rfl rfl | exact hM.bcell 3 rfl rfl | exact hM.bcell 4 rfl rfl | exact hM.bcell 5 rfl rfl | exact hM.bcell 6 rfl rfl | exact hM.bcell 7 rfl rfl) rfl ?_)
        refine E.on rfl rfl (E.fld (o := 0) (sz := 0) rfl Try.underlying24 rfl rfl (by kernel_rfl) rfl ?_)
        refine E.on rfl rfl (E.load rfl Try.underlying3 rfl (by first | exact hM.bcell 0 rfl rfl | exact hM.bcell 1 rfl rfl | exact hM.bcell 2 rfl rfl | exact hM.bcell 3 rfl rfl | exact hM.bcell 4 rfl rfl | exact hM.bcell 5 rfl rfl | exact hM.bcell 6 rfl rfl | exact hM.bcell 7 rfl rfl) rfl ?_)
        refine E.on rfl rfl (E.bin rfl rfl rfl rfl ?_)
        refine E.pick rfl rfl rfl <| E.mv rfl rfl <| ?_
        refine E.split 40 rfl (fun g40 => ?_) (fun g40 => ?_)
        ·
          try simp only [decide_eq_true_eq, decide_eq_false_iff_not, ne_eq, Decidable.not_not] at g40
          refine E.off rfl rfl rfl rfl <| E.off rfl rfl rfl rfl <| E.off rfl rfl rfl rfl <| E.pick rfl rfl rfl <| E.mv rfl rfl <| E.off rfl rfl rfl rfl <| E.off rfl rfl rfl rfl <| E.off rfl rfl rfl rfl <| E.off rfl rfl rfl rfl <| E.off rfl rfl rfl rfl <| E.pick rfl rfl rfl <| E.nil <| X.join0 (Sub.cons (by (first | exact leaf_f (by omega) | exact leaf_t (by omega) | exact leaf_d (by omega) | exact leaf_f (by first | (simp [*] <;> fail) | omega) | exact leaf_t (by first | (simp [*] <;> fail) | omega) | exact leaf_d (by first | (simp [*] <;> fail) | omega) | exact leaf_f (by (first | omega | ((try simp only [decide_eq_true_eq, decide_eq_false_iff_not, Bool.not_eq_true', Bool.not_eq_false'] at *); first | omega | (simp_all <;> fail) | (simp_all; omega)))) | exact leaf_t (by (first | omega | ((try simp only [decide_eq_true_eq, decide_eq_false_iff_not, Bool.not_eq_true', Bool.not_eq_false'] at *); first | omega | (simp_all <;> fail) | (simp_all; omega)))) | exact leaf_d (by (first | omega | ((try simp only [decide_eq_true_eq, decide_eq_false_iff_not, Bool.not_eq_true', Bool.not_eq_false'] at *); first | omega | (simp_all <;> fail) | (simp_all; omega)))))) <| Sub.nil _) rfl rfl
        ·
          try simp only [decide_eq_true_eq, decide_eq_false_iff_not, ne_eq, Decidable.not_not] at g40
          refine E.on rfl rfl (E.fld (o := 3) (sz := 0) rfl Try.underlying34 rfl rfl (by kernel_rfl) rfl ?_)
          refine E.on rfl rfl (E.load rfl Try.underlying3 rfl (by first | exact hM.bcell 0 rfl rfl | exact hM.bcell 1 rfl rfl | exact hM.bcell 2 rfl rfl | exact hM.bcell 3 rfl rfl | exact hM.bcell 4 rfl rfl | exact hM.bcell 5 rfl rfl | exact hM.bcell 6 rfl rfl | exact hM.bcell 7 rfl rfl) rfl ?_)
          refine E.on rfl rfl (E.bin rfl rfl rfl rfl ?_)
          refine E.pick rfl rfl rfl <| E.mv rfl rfl <| ?_
          refine E.split 45 rfl (fun g45 => ?_) (fun g45 => ?_)
          ·
            try simp only [decide_eq_true_eq, decide_eq_false_iff_not, ne_eq, Decidable.not_not] at g45
            refine E.off rfl rfl rfl rfl <| E.off rfl rfl rfl rfl <| E.off rfl rfl rfl rfl <| E.off rfl rfl rfl rfl <| E.off rfl rfl rfl rfl <| E.pick rfl rfl rfl <| E.nil <| X.join0 (Sub.cons (by (first | exact leaf_f (by omega) | exact leaf_t (by omega) | exact leaf_d (by omega) | exact leaf_f (by first | (simp [*] <;> fail) | omega) | exact leaf_t (by first | (simp [*] <;> fail) | omega) | exact leaf_d (by first | (simp [*] <;> fail) | omega) | exact leaf_f (by (first | omega | ((try simp only [decide_eq_true_eq, decide_eq_false_iff_not, Bool.not_eq_true', Bool.not_eq_false'] at *); first | omega | (simp_all <;> fail) | (simp_all; omega)))) | exact leaf_t (by (first | omega | ((try simp only [decide_eq_true_eq, decide_eq_false_iff_not, Bool.not_eq_true', Bool.not_eq_false'] at *); first | omega | (simp_all <;> fail) | (simp_all; omega)))) | exact leaf_d (by (first | omega | ((try simp only [decide_eq_true_eq, decide_eq_false_iff_not, Bool.not_eq_true', Bool.not_eq_false'] at *); first | omega | (simp_all <;> fail) | (simp_all; omega)))))) <| Sub.nil _) rfl rfl
          ·
            try simp only [decide_eq_true_eq, decide_eq_false_iff_not, ne_eq, Decidable.not_not] at g45
            refine E.on rfl rfl (E.fld (o := 3) (sz := 0) rfl Try.underlying34 rfl rfl (by kernel_rfl) rfl ?_)
            refine E.on rfl rfl (E.load rfl Try.underlying3 rfl (by first | exact hM.bcell 0 rfl rfl | exact hM.bcell 1 rfl rfl | exact hM.bcell 2 rfl rfl | exact hM.bcell 3 rfl rfl | exact hM.bcell 4 rfl rfl | exact hM.bcell 5 rfl rfl | exact hM.bcell 6 rfl rfl | exact hM.bcell 7 rfl rfl) rfl ?_)
            refine E.on rfl rfl (E.fld (o := 1) (sz := 0) rfl Try.underlying24 rfl rfl (by kernel_rfl) rfl ?_)
            refine E.on rfl rfl (E.load rfl Try.underlying3 rfl (by first | exact hM.bcell 0 rfl rfl | exact hM.bcell 1 rfl rfl | exact hM.bcell 2 rfl rfl | exact hM.bcell 3 rfl rfl | exact hM.bcell 4 rfl rfl | exact hM.bcell 5 rfl rfl | exact hM.bcell 6 rfl rfl | exact hM.bcell 7 rfl rfl) rfl ?_)
            refine E.on rfl rfl (E.bin rfl rfl rfl rfl ?_)
            refine E.pick rfl rfl rfl <| E.nil <| X.join0 (Sub.cons (by (first | exact leaf_f (by omega) | exact leaf_t (by omega) | exact leaf_d (by omega) | exact leaf_f (by first | (simp [*] <;> fail) | omega) | exact leaf_t (by first | (simp [*] <;> fail) | omega) | exact leaf_d (by first | (simp [*] <;> fail) | omega) | exact leaf_f (by (first | omega | ((try simp only [decide_eq_true_eq, decide_eq_false_iff_not, Bool.not_eq_true', Bool.not_eq_false'] at *); first | omega | (simp_all <;> fail) | (simp_all; omega)))) | exact leaf_t (by (first | omega | ((try simp only [decide_eq_true_eq, decide_eq_false_iff_not, Bool.not_eq_true', Bool.not_eq_false'] at *); first | omega | (simp_all <;> fail) | (simp_all; omega)))) | exact leaf_d (by (first | omega | ((try simp only [decide_eq_true_eq, decide_eq_false_iff_not, Bool.not_eq_true', Bool.not_eq_false'] at *); first | omega | (simp_all <;> fail) | (simp_all; omega)))))) <| Sub.nil _) rfl rfl
    refine C.cond' rfl (fun hC1 => ?_) (fun hC1 => ?_)
    ·
      refine C.seq <| C.region <| ?_
      refine E.buildC (cs := [_, _, _]) [.int .i64 0, .int .i64 0, .slice none 0 0] [] rfl rfl (by kernel_rfl) rfl ?_
      first
        | refine E.storeAM 0 hM rfl rfl rfl (by kernel_rfl) rfl ?_ ?_
        | refine E.storeAM 1 hM rfl rfl rfl (by kernel_rfl) rfl ?_ ?_
        | refine E.storeAM 2 hM rfl rfl rfl (by kernel_rfl) rfl ?_ ?_
        | refine E.storeAM 3 hM rfl rfl rfl (by kernel_rfl) rfl ?_ ?_
        | refine E.storeAM 4 hM rfl rfl rfl (by kernel_rfl) rfl ?_ ?_
        | refine E.storeAM 5 hM rfl rfl rfl (by kernel_rfl) rfl ?_ ?_
        | refine E.storeAM 6 hM rfl rfl rfl (by kernel_rfl) rfl ?_ ?_
        | refine E.storeAM 7 hM rfl rfl rfl (by kernel_rfl) rfl ?_ ?_
      · exact ones (by first | rfl | exact (hM.sl 0 rfl).one | exact (hM.sl 1 rfl).one | exact (hM.sl 2 rfl).one | exact (hM.sl 3 rfl).one | exact (hM.sl 4 rfl).one | exact (hM.sl 5 rfl).one | exact (hM.sl 6 rfl).one | exact (hM.sl 7 rfl).one | exact (hM.slF 0 rfl).one | exact (hM.slF 1 rfl).one | exact (hM.slF 2 rfl).one | exact (hM.slF 3 rfl).one | exact (hM.slF 4 rfl).one | exact (hM.slF 5 rfl).one | exact (hM.slF 6 rfl).one | exact (hM.slF 7 rfl).one | exact RdL.one (by assumption) | exact RdF.one (by assumption) | assumption) <| ones (by first | rfl | exact (hM.sl 0 rfl).one | exact (hM.sl 1 rfl).one | exact (hM.sl 2 rfl).one | exact (hM.sl 3 rfl).one | exact (hM.sl 4 rfl).one | exact (hM.sl 5 rfl).one | exact (hM.sl 6 rfl).one | exact (hM.sl 7 rfl).one | exact (hM.slF 0 rfl).one | exact (hM.slF 1 rfl).one | exact (hM.slF 2 rfl).one | exact (hM.slF 3 rfl).one | exact (hM.slF 4 rfl).one | exact (hM.slF 5 rfl).one | exact (hM.slF 6 rfl).one | exact (hM.slF 7 rfl).one | exact RdL.one (by assumption) | exact RdF.one (by assumption) | assumption) <| ones (by first | rfl | exact (hM.sl 0 rfl).one | exact (hM.sl 1 rfl).one | exact (hM.sl 2 rfl).one | exact (hM.sl 3 rfl).one | exact (hM.sl 4 rfl).one | exact (hM.sl 5 rfl).one | exact (hM.sl 6 rfl).one | exact (hM.sl 7 rfl).one | exact (hM.slF 0 rfl).one | exact (hM.slF 1 rfl).one | exact (hM.slF 2 rfl).one | exact (hM.slF 3 rfl).one | exact (hM.slF 4 rfl).one | exact (hM.slF 5 rfl).one | exact (hM.slF 6 rfl).one | exact (hM.slF 7 rfl).one | exact RdL.one (by assumption) | exact RdF.one (by assumption) | assumption) <| ones_nil
      intro w8 hM
      try dsimp only [List.nil_append, List.cons_append, List.set_cons_zero, List.set_cons_succ, repl] at hM
      refine E.asg rfl rfl <| E.nil <| X.next <| C.ret <| X.retT <| retAT rfl rfl rfl Try.underlying24 rfl (by first | exact hM.blk 0 rfl | exact hM.blk 1 rfl | exact hM.blk 2 rfl | exact hM.blk 3 rfl | exact hM.blk 4 rfl | exact hM.blk 5 rfl | exact hM.blk 6 rfl | exact hM.blk 7 rfl) (by kernel_rfl) ?_
      exact ⟨_, _, _, [], _, rfl, .inr (.inl ⟨hok, fun h => by unfold InB at h; omega, rfl, rfl, rfl, rfl⟩), (hM.nil Value.bool 4).pick [4] (by decide)⟩
    ·
      refine C.skip <| X.next <| C.seq <| ?_

      refine C.chainE [(1, _), (3, _), (4, _), (8, _), (10, _)] rfl [(80, .bool (decide (bx < 0 ∨ (a : Int) - bw < bx ∨ by_ < 0 ∨ (b : Int) - bh < by_)))] ?_ ?_
      ·
        refine C.region <| ?_
        refine E.fld (o := 0) (sz := 0) rfl Try.underlying34 rfl rfl (by kernel_rfl) rfl ?_
        refine E.load rfl Try.underlying3 rfl (by first | exact hM.bcell 0 rfl rfl | exact hM.bcell 1 rfl rfl | exact hM.bcell 2 rfl rfl | exact hM.bcell 3 rfl rfl | exact hM.bcell 4 rfl rfl | exact hM.bcell 5 rfl rfl | exact hM.bcell 6 rfl rfl | exact hM.bcell 7 rfl rfl) rfl ?_
        refine E.bin rfl rfl rfl rfl <| E.mv rfl rfl <| ?_
        refine E.split 56 rfl (fun g56 => ?_) (fun g56 => ?_)
        ·
          try simp only [decide_eq_true_eq, decide_eq_false_iff_not, ne_eq, Decidable.not_not] at g56
          refine E.off rfl rfl rfl rfl <| E.off rfl rfl rfl rfl <| E.off rfl rfl rfl rfl <| E.off rfl rfl rfl rfl <| E.off rfl rfl rfl rfl <| E.off rfl rfl rfl rfl <| E.off rfl rfl rfl rfl <| E.off rfl rfl rfl rfl <| E.pick rfl rfl rfl <| E.mv rfl rfl <| E.off rfl rfl rfl rfl <| E.off rfl rfl rfl rfl <| E.off rfl rfl rfl rfl <| E.pick rfl rfl rfl <| E.mv rfl rfl <| E.off rfl rfl rfl rfl <| E.off rfl rfl rfl rfl <| E.off rfl rfl rfl rfl <| E.off rfl rfl rfl rfl <| E.off rfl rfl rfl rfl <| E.off rfl rfl rfl rfl <| E.off rfl rfl rfl rfl <| E.off rfl rfl rfl rfl <| E.pick rfl rfl rfl <| E.nil <| X.join0 (Sub.cons (by (first | exact leaf_f (by omega) | exact leaf_t (by omega) | exact leaf_d (by omega) | exact leaf_f (by first | (simp [*] <;> fail) | omega) | exact leaf_t (by first | (simp [*] <;> fail) | omega) | exact leaf_d (by first | (simp [*] <;> fail) | omega) | exact leaf_f (by (first | omega | ((try simp only [decide_eq_true_eq, decide_eq_false_iff_not, Bool.not_eq_true', Bool.not_eq_false'] at *); first | omega | (simp_all <;> fail) | (simp_all; omega)))) | exact leaf_t (by (first | omega | ((try simp only [decide_eq_true_eq, decide_eq_false_iff_not, Bool.not_eq_true', Bool.not_eq_false'] at *); first | omega | (simp_all <;> fail) | (simp_all; omega)))) | exact leaf_d (by (first | omega | ((try simp only [decide_eq_true_eq, decide_eq_false_iff_not, Bool.not_eq_true', Bool.not_eq_false'] at *); first | omega | (simp_all <;> fail) | (simp_all; omega)))))) <| Sub.nil _) rfl rfl
        ·
          try simp only [decide_eq_true_eq, decide_eq_false_iff_not, ne_eq, Decidable.not_not] at g56
          refine E.on rfl rfl (E.fld (o := 0) (sz := 0) rfl Try.underlying34 rfl rfl (by kernel_rfl) rfl ?_)
          refine E.on rfl rfl (E.load rfl Try.underlying3 rfl (by first | exact hM.bcell 0 rfl rfl | exact hM.bcell 1 rfl rfl | exact hM.bcell 2 rfl rfl | exact hM.bcell 3 rfl rfl | exact hM.bcell 4 rfl rfl | exact hM.bcell 5 rfl rfl | exact hM.bcell 6 rfl rfl | exact hM.bcell 7 rfl rfl) rfl ?_)
          refine E.on rfl rfl (E.fld (o := 0) (sz := 0) rfl Try.underlying24 rfl rfl (by kernel_rfl) rfl ?_)
          refine E.on rfl rfl (E.load rfl Try.underlying3 rfl (by first | exact hM.bcell 0 rfl rfl | exact hM.bcell 1 rfl rfl | exact hM.bcell 2 rfl rfl | exact hM.bcell 3 rfl rfl | exact hM.bcell 4 rfl rfl | exact hM.bcell 5 rfl rfl | exact hM.bcell 6 rfl rfl | exact hM.bcell 7 rfl rfl) rfl ?_)
          refine E.on rfl rfl (E.fld (o := 2) (sz := 0) rfl Try.underlying34 rfl rfl (by kernel_rfl) rfl ?_)
          refine E.on rfl rfl (E.load rfl Try.underlying3 rfl (by first | exact hM.bcell 0 rfl rfl | exact hM.bcell 1 rfl rfl | exact hM.bcell 2 rfl rfl | exact hM.bcell 3 rfl rfl | exact hM.bcell 4 rfl rfl | exact hM.bcell 5 rfl rfl | exact hM.bcell 6 rfl rfl | exact hM.bcell 7 rfl rfl) rfl ?_)
          refine E.on rfl rfl (E.sub' rfl rfl (by omega) rfl ?_)
          refine E.on rfl rfl (E.bin rfl rfl rfl rfl ?_)
          refine E.pick rfl rfl rfl <| E.mv rfl rfl <| ?_
          refine E.split 66 rfl (fun g66 => ?_) (fun g66 => ?_)
          ·
            try simp only [decide_eq_true_eq, decide_eq_false_iff_not, ne_eq, Decidable.not_not] at g66
            refine E.off rfl rfl rfl rfl <| E.off rfl rfl rfl rfl <| E.off rfl rfl rfl rfl <| E.pick rfl rfl rfl <| E.mv rfl rfl <| E.off rfl rfl rfl rfl <| E.off rfl rfl rfl rfl <| E.off rfl rfl rfl rfl <| E.off rfl rfl rfl rfl <| E.off rfl rfl rfl rfl <| E.off rfl rfl rfl rfl <| E.off rfl rfl rfl rfl <| E.off rfl rfl rfl rfl <| E.pick rfl rfl rfl <| E.nil <| X.join0 (Sub.cons (by (first | exact leaf_f (by omega) | exact leaf_t (by omega) | exact leaf_d (by omega) | exact leaf_f (by first | (simp [*] <;> fail) | omega) | exact leaf_t (by first | (simp [*] <;> fail) | omega) | exact leaf_d (by first | (simp [*] <;> fail) | omega) | exact leaf_f (by (first | omega | ((try simp only [decide_eq_true_eq, decide_eq_false_iff_not, Bool.not_eq_true', Bool.not_eq_false'] at *); first | omega | (simp_all <;> fail) | (simp_all; omega)))) | exact leaf_t (by (first | omega | ((try simp only [decide_eq_true_eq, decide_eq_false_iff_not, Bool.not_eq_true', Bool.not_eq_false'] at *); first | omega | (simp_all <;> fail) | (simp_all; omega)))) | exact leaf_d (by (first | omega | ((try simp only [decide_eq_true_eq, decide_eq_false_iff_not, Bool.not_eq_true', Bool.not_eq_false'] at *); first | omega | (simp_all <;> fail) | (simp_all; omega)))))) <| Sub.nil _) rfl rfl
          ·
            try simp only [decide_eq_true_eq, decide_eq_false_iff_not, ne_eq, Decidable.not_not] at g66
            refine E.on rfl rfl (E.fld (o := 1) (sz := 0) rfl Try.underlying34 rfl rfl (by kernel_rfl) rfl ?_)
            refine E.on rfl rfl (E.load rfl Try.underlying3 rfl (by first | exact hM.bcell 0 rfl rfl | exact hM.bcell 1 rfl rfl | exact hM.bcell 2 rfl rfl | exact hM.bcell 3 rfl rfl | exact hM.bcell 4 rfl rfl | exact hM.bcell 5 rfl rfl | exact hM.bcell 6 rfl rfl | exact hM.bcell 7 rfl rfl) rfl ?_)
            refine E.on rfl rfl (E.bin rfl rfl rfl rfl ?_)
            refine E.pick rfl rfl rfl <| E.mv rfl rfl <| ?_
            refine E.split 71 rfl (fun g71 => ?_) (fun g71 => ?_)
            ·
              try simp only [decide_eq_true_eq, decide_eq_false_iff_not, ne_eq, Decidable.not_not] at g71
              refine E.off rfl rfl rfl rfl <| E.off rfl rfl rfl rfl <| E.off rfl rfl rfl rfl <| E.off rfl rfl rfl rfl <| E.off rfl rfl rfl rfl <| E.off rfl rfl rfl rfl <| E.off rfl rfl rfl rfl <| E.off rfl rfl rfl rfl <| E.pick rfl rfl rfl <| E.nil <| X.join0 (Sub.cons (by (first | exact leaf_f (by omega) | exact leaf_t (by omega) | exact leaf_d (by omega) | exact leaf_f (by first | (simp [*] <;> fail) | omega) | exact leaf_t (by first | (simp [*] <;> fail) | omega) | exact leaf_d (by first | (simp [*] <;> fail) | omega) | exact leaf_f (by (first | omega | ((try simp only [decide_eq_true_eq, decide_eq_false_iff_not, Bool.not_eq_true', Bool.not_eq_false'] at *); first | omega | (simp_all <;> fail) | (simp_all; omega)))) | exact leaf_t (by (first | omega | ((try simp only [decide_eq_true_eq, decide_eq_false_iff_not, Bool.not_eq_true', Bool.not_eq_false'] at *); first | omega | (simp_all <;> fail) | (simp_all; omega)))) | exact leaf_d (by (first | omega | ((try simp only [decide_eq_true_eq, decide_eq_false_iff_not, Bool.not_eq_true', Bool.not_eq_false'] at *); first | omega | (simp_all <;> fail) | (simp_all; omega)))))) <| Sub.nil _) rfl rfl
            ·
              try simp only [decide_eq_true_eq, decide_eq_false_iff_not, ne_eq, Decidable.not_not] at g71
              refine E.on rfl rfl (E.fld (o := 1) (sz := 0) rfl Try.underlying34 rfl rfl (by kernel_rfl) rfl ?_)
              refine E.on rfl rfl (E.load rfl Try.underlying3 rfl (by first | exact hM.bcell 0 rfl rfl | exact hM.bcell 1 rfl rfl | exact hM.bcell 2 rfl rfl | exact hM.bcell 3 rfl rfl | exact hM.bcell 4 rfl rfl | exact hM.bcell 5 rfl rfl | exact hM.bcell 6 rfl rfl | exact hM.bcell 7 rfl rfl) rfl ?_)
              refine E.on rfl rfl (E.fld (o := 1) (sz := 0) rfl Try.underlying24 rfl rfl (by kernel_rfl) rfl ?_)
              refine E.on rfl rfl (E.load rfl Try.underlying3 rfl (by first | exact hM.bcell 0 rfl rfl | exact hM.bcell 1 rfl rfl | exact hM.bcell 2 rfl rfl | exact hM.bcell 3 rfl rfl | exact hM.bcell 4 rfl rfl | exact hM.bcell 5 rfl rfl | exact hM.bcell 6 rfl rfl | exact hM.bcell 7 rfl rfl) rfl ?_)
              refine E.on rfl rfl (E.fld (o := 3) (sz := 0) rfl Try.underlying34 rfl rfl (by kernel_rfl) rfl ?_)
              refine E.on rfl rfl (E.load rfl Try.underlying3 rfl (by first | exact hM.bcell 0 rfl rfl | exact hM.bcell 1 rfl rfl | exact hM.bcell 2 rfl rfl | exact hM.bcell 3 rfl rfl | exact hM.bcell 4 rfl rfl | exact hM.bcell 5 rfl rfl | exact hM.bcell 6 rfl rfl | exact hM.bcell 7 rfl rfl) rfl ?_)
              refine E.on rfl rfl (E.sub' rfl rfl (by omega) rfl ?_)
              refine E.on rfl rfl (E.bin rfl rfl rfl rfl ?_)
              refine E.pick rfl rfl rfl <| E.nil <| X.join0 (Sub.cons (by (first | exact leaf_f (by omega) | exact leaf_t (by omega) | exact leaf_d (by omega) | exact leaf_f (by first | (simp [*] <;> fail) | omega) | exact leaf_t (by first | (simp [*] <;> fail) | omega) | exact leaf_d (by first | (simp [*] <;> fail) | omega) | exact leaf_f (by (first | omega | ((try simp only [decide_eq_true_eq, decide_eq_false_iff_not, Bool.not_eq_true', Bool.not_eq_false'] at *); first | omega | (simp_all <;> fail) | (simp_all; omega)))) | exact leaf_t (by (first | omega | ((try simp only [decide_eq_true_eq, decide_eq_false_iff_not, Bool.not_eq_true', Bool.not_eq_false'] at *); first | omega | (simp_all <;> fail) | (simp_all; omega)))) | exact leaf_d (by (first | omega | ((try simp only [decide_eq_true_eq, decide_eq_false_iff_not, Bool.not_eq_true', Bool.not_eq_false'] at *); first | omega | (simp_all <;> fail) | (simp_all; omega)))))) <| Sub.nil _) rfl rfl
      refine C.cond' rfl (fun hC2 => ?_) (fun hC2 => ?_)
      ·
        refine C.seq <| C.region <| ?_
        refine E.buildC (cs := [_, _, _]) [.int .i64 0, .int .i64 0, .slice none 0 0] [] rfl rfl (by kernel_rfl) rfl ?_
        first
          | refine E.storeAM 0 hM rfl rfl rfl (by kernel_rfl) rfl ?_ ?_
          | refine E.storeAM 1 hM rfl rfl rfl (by kernel_rfl) rfl ?_ ?_
          | refine E.storeAM 2 hM rfl rfl rfl (by kernel_rfl) rfl ?_ ?_
          | refine E.storeAM 3 hM rfl rfl rfl (by kernel_rfl) rfl ?_ ?_
          | refine E.storeAM 4 hM rfl rfl rfl (by kernel_rfl) rfl ?_ ?_
          | refine E.storeAM 5 hM rfl rfl rfl (by kernel_rfl) rfl ?_ ?_
          | refine E.storeAM 6 hM rfl rfl rfl (by kernel_rfl) rfl ?_ ?_
          | refine E.storeAM 7 hM rfl rfl rfl (by kernel_rfl) rfl ?_ ?_
        · exact ones (by first | rfl | exact (hM.sl 0 rfl).one | exact (hM.sl 1 rfl).one | exact (hM.sl 2 rfl).one | exact (hM.sl 3 rfl).one | exact (hM.sl 4 rfl).one | exact (hM.sl 5 rfl).one | exact (hM.sl 6 rfl).one | exact (hM.sl 7 rfl).one | exact (hM.slF 0 rfl).one | exact (hM.slF 1 rfl).one | exact (hM.slF 2 rfl).one | exact (hM.slF 3 rfl).one | exact (hM.slF 4 rfl).one | exact (hM.slF 5 rfl).one | exact (hM.slF 6 rfl).one | exact (hM.slF 7 rfl).one | exact RdL.one (by assumption) | exact RdF.one (by assumption) | assumption) <| ones (by first | rfl | exact (hM.sl 0 rfl).one | exact (hM.sl 1 rfl).one | exact (hM.sl 2 rfl).one | exact (hM.sl 3 rfl).one | exact (hM.sl 4 rfl).one | exact (hM.sl 5 rfl).one | exact (hM.sl 6 rfl).one | exact (hM.sl 7 rfl).one | exact (hM.slF 0 rfl).one | exact (hM.slF 1 rfl).one | exact (hM.slF 2 rfl).one | exact (hM.slF 3 rfl).one | exact (hM.slF 4 rfl).one | exact (hM.slF 5 rfl).one | exact (hM.slF 6 rfl).one | exact (hM.slF 7 rfl).one | exact RdL.one (by assumption) | exact RdF.one (by assumption) | assumption) <| ones (by first | rfl | exact (hM.sl 0 rfl).one | exact (hM.sl 1 rfl).one | exact (hM.sl 2 rfl).one | exact (hM.sl 3 rfl).one | exact (hM.sl 4 rfl).one | exact (hM.sl 5 rfl).one | exact (hM.sl 6 rfl).one | exact (hM.sl 7 rfl).one | exact (hM.slF 0 rfl).one | exact (hM.slF 1 rfl).one | exact (hM.slF 2 rfl).one | exact (hM.slF 3 rfl).one | exact (hM.slF 4 rfl).one | exact (hM.slF 5 rfl).one | exact (hM.slF 6 rfl).one | exact (hM.slF 7 rfl).one | exact RdL.one (by assumption) | exact RdF.one (by assumption) | assumption) <| ones_nil
        intro w9 hM
        try dsimp only [List.nil_append, List.cons_append, List.set_cons_zero, List.set_cons_succ, repl] at hM
        refine E.asg rfl rfl <| E.nil <| X.next <| C.ret <| X.retT <| retAT rfl rfl rfl Try.underlying24 rfl (by first | exact hM.blk 0 rfl | exact hM.blk 1 rfl | exact hM.blk 2 rfl | exact hM.blk 3 rfl | exact hM.blk 4 rfl | exact hM.blk 5 rfl | exact hM.blk 6 rfl | exact hM.blk 7 rfl) (by kernel_rfl) ?_
        exact ⟨_, _, _, [], _, rfl, .inr (.inl ⟨hok, fun h => by unfold InB at h; omega, rfl, rfl, rfl, rfl⟩), (hM.nil Value.bool 4).pick [4] (by decide)⟩
      ·
        have hin : InB a b bx by_ bw bh := by unfold InB; omega
        obtain ⟨x, rfl⟩ : ∃ x : Nat, bx = (x : Int) := ⟨bx.toNat, by unfold InB at hin; omega⟩
        obtain ⟨y, rfl⟩ : ∃ y : Nat, by_ = (y : Int) := ⟨by_.toNat, by unfold InB at hin; omega⟩
        obtain ⟨p, rfl⟩ : ∃ p : Nat, bw = (p : Int) := ⟨bw.toNat, by unfold InB at hin; omega⟩
        obtain ⟨q, rfl⟩ : ∃ q : Nat, bh = (q : Int) := ⟨bh.toNat, by unfold InB at hin; omega⟩
        have hp : 1 ≤ p ∧ x + p ≤ a := by unfold InB at hin; omega
        have hq : 1 ≤ q ∧ y + q ≤ b := by unfold InB at hin; omega
        have hlab : labels.length = a * b := by have h1 := hok.2; rw [← Int.natCast_mul] at h1; omega
        have hpq : p * q ≤ 4096 * 4096 := Nat.mul_le_mul (by omega) (by omega)
        refine C.skip <| X.next <| ?_

        refine C.cut2 [(1, _), (3, _), (4, _), (8, _), (10, _)] rfl (fun (b11 : Nat) (vo : Value) => [(11, pv b11)]) (fun (b11 : Nat) (vo : Value) w' => M w (Nn) w' [Rg.blk b4 24 [i64 a, i64 b, .slice c0 n cap0], Rg.blk b6 38 [i64 x, i64 y, i64 p, i64 q, i64 ar, i64 fx, i64 fy], Rg.blk b8 24 [i64 0, i64 0, nilS], Rg.blk b10 34 [i64 x, i64 y, i64 p, i64 q], Rg.blk b11 24 [i64 p, i64 q, vo], Rg.sl Value.bool 4 vo (List.replicate (p * q) false)]) ?_ ?_
        ·
          refine C.heldE (by kernel_rfl) fun wh10 hwh10 _ => ?_
          have hS := hwh10
          have hM0 := hM
          have hM := M.ofExt hwh10
          refine H.takeV 0 rfl rfl (by kernel_rfl) (by kernel_rfl) (by kernel_rfl) hS (Y.fld (o := 2) (sz := 0) rfl Try.underlying34 rfl rfl (by kernel_rfl)) (fun w' hS => by have hM := hM0.ext hS; exact Y.fld (o := 2) (sz := 0) rfl Try.underlying34 rfl rfl (by kernel_rfl)) rfl ?_
          refine H.takeV 2 rfl rfl (by kernel_rfl) (by kernel_rfl) (by kernel_rfl) hS (Y.fld (o := 3) (sz := 0) rfl Try.underlying34 rfl rfl (by kernel_rfl)) (fun w' hS => by have hM := hM0.ext hS; exact Y.fld (o := 3) (sz := 0) rfl Try.underlying34 rfl rfl (by kernel_rfl)) rfl ?_
          refine H.takeV 4 rfl rfl (by kernel_rfl) (by kernel_rfl) (by kernel_rfl) hS (Y.fld (o := 2) (sz := 0) rfl Try.underlying34 rfl rfl (by kernel_rfl)) (fun w' hS => by have hM := hM0.ext hS; exact Y.fld (o := 2) (sz := 0) rfl Try.underlying34 rfl rfl (by kernel_rfl)) rfl ?_
          refine H.takeV 6 rfl rfl (by kernel_rfl) (by kernel_rfl) (by kernel_rfl) hS (Y.fld (o := 3) (sz := 0) rfl Try.underlying34 rfl rfl (by kernel_rfl)) (fun w' hS => by have hM := hM0.ext hS; exact Y.fld (o := 3) (sz := 0) rfl Try.underlying34 rfl rfl (by kernel_rfl)) rfl ?_
          refine H.takeV 1 rfl rfl (by kernel_rfl) (by kernel_rfl) (by kernel_rfl) hS (Y.load rfl Try.underlying3 rfl (by first | exact (hM0.ext hS).bcell 0 rfl rfl | exact (hM0.ext hS).bcell 1 rfl rfl | exact (hM0.ext hS).bcell 2 rfl rfl | exact (hM0.ext hS).bcell 3 rfl rfl | exact (hM0.ext hS).bcell 4 rfl rfl | exact (hM0.ext hS).bcell 5 rfl rfl | exact (hM0.ext hS).bcell 6 rfl rfl | exact (hM0.ext hS).bcell 7 rfl rfl)) (fun w' hS => by have hM := hM0.ext hS; exact Y.load rfl Try.underlying3 rfl (by first | exact hM.bcell 0 rfl rfl | exact hM.bcell 1 rfl rfl | exact hM.bcell 2 rfl rfl | exact hM.bcell 3 rfl rfl | exact hM.bcell 4 rfl rfl | exact hM.bcell 5 rfl rfl | exact hM.bcell 6 rfl rfl | exact hM.bcell 7 rfl rfl)) rfl ?_
          refine H.takeV 3 rfl rfl (by kernel_rfl) (by kernel_rfl) (by kernel_rfl) hS (Y.load rfl Try.underlying3 rfl (by first | exact (hM0.ext hS).bcell 0 rfl rfl | exact (hM0.ext hS).bcell 1 rfl rfl | exact (hM0.ext hS).bcell 2 rfl rfl | exact (hM0.ext hS).bcell 3 rfl rfl | exact (hM0.ext hS).bcell 4 rfl rfl | exact (hM0.ext hS).bcell 5 rfl rfl | exact (hM0.ext hS).bcell 6 rfl rfl | exact (hM0.ext hS).bcell 7 rfl rfl)) (fun w' hS => by have hM := hM0.ext hS; exact Y.load rfl Try.underlying3 rfl (by first | exact hM.bcell 0 rfl rfl | exact hM.bcell 1 rfl rfl | exact hM.bcell 2 rfl rfl | exact hM.bcell 3 rfl rfl | exact hM.bcell 4 rfl rfl | exact hM.bcell 5 rfl rfl | exact hM.bcell 6 rfl rfl | exact hM.bcell 7 rfl rfl)) rfl ?_
          refine H.takeV 5 rfl rfl (by kernel_rfl) (by kernel_rfl) (by kernel_rfl) hS (Y.load rfl Try.underlying3 rfl (by first | exact (hM0.ext hS).bcell 0 rfl rfl | exact (hM0.ext hS).bcell 1 rfl rfl | exact (hM0.ext hS).bcell 2 rfl rfl | exact (hM0.ext hS).bcell 3 rfl rfl | exact (hM0.ext hS).bcell 4 rfl rfl | exact (hM0.ext hS).bcell 5 rfl rfl | exact (hM0.ext hS).bcell 6 rfl rfl | exact (hM0.ext hS).bcell 7 rfl rfl)) (fun w' hS => by have hM := hM0.ext hS; exact Y.load rfl Try.underlying3 rfl (by first | exact hM.bcell 0 rfl rfl | exact hM.bcell 1 rfl rfl | exact hM.bcell 2 rfl rfl | exact hM.bcell 3 rfl rfl | exact hM.bcell 4 rfl rfl | exact hM.bcell 5 rfl rfl | exact hM.bcell 6 rfl rfl | exact hM.bcell 7 rfl rfl)) rfl ?_
          refine H.takeV 7 rfl rfl (by kernel_rfl) (by kernel_rfl) (by kernel_rfl) hS (Y.load rfl Try.underlying3 rfl (by first | exact (hM0.ext hS).bcell 0 rfl rfl | exact (hM0.ext hS).bcell 1 rfl rfl | exact (hM0.ext hS).bcell 2 rfl rfl | exact (hM0.ext hS).bcell 3 rfl rfl | exact (hM0.ext hS).bcell 4 rfl rfl | exact (hM0.ext hS).bcell 5 rfl rfl | exact (hM0.ext hS).bcell 6 rfl rfl | exact (hM0.ext hS).bcell 7 rfl rfl)) (fun w' hS => by have hM := hM0.ext hS; exact Y.load rfl Try.underlying3 rfl (by first | exact hM.bcell 0 rfl rfl | exact hM.bcell 1 rfl rfl | exact hM.bcell 2 rfl rfl | exact hM.bcell 3 rfl rfl | exact hM.bcell 4 rfl rfl | exact hM.bcell 5 rfl rfl | exact hM.bcell 6 rfl rfl | exact hM.bcell 7 rfl rfl)) rfl ?_
          have hm0 : (p : Int) * (q : Int) = ((p * q : Nat) : Int) := (Int.natCast_mul p q).symm
          refine H.take 8 rfl rfl (by kernel_rfl) (by kernel_rfl) (by kernel_rfl) hS (fun w' hS => by have hM := hM0.ext hS; exact Y.mul rfl rfl (by omega)) rfl ?_
          rw [← Int.natCast_mul]
          refine H.two 9 11 rfl rfl (by kernel_rfl) ?_ ?_
          ·
            refine E.makeM (by_ := 1) (enc := Value.bool) false hM rfl Try.underlying22 (by kernel_rfl) rfl (by first | omega | (simp only [List.length_replicate, List.length_append, List.length_set, List.length_cons, List.length_nil, List.length_map, List.length_range, List.length_take, List.length_drop, List.length_zipWith] at *; omega)) (by first | omega | (simp only [List.length_replicate, List.length_append, List.length_set, List.length_cons, List.length_nil, List.length_map, List.length_range, List.length_take, List.length_drop, List.length_zipWith] at *; omega)) rfl ?_
            intro v91 w11 hM
            try dsimp only [List.nil_append, List.cons_append, List.set_cons_zero, List.set_cons_succ, repl] at hM
            have hS := hM.toExt
            refine H.back hS ?_
            obtain ⟨c1, c2, rfl⟩ : ∃ c1 c2, v91 = .slice c1 (p * q) c2 := by
              first
                | exact (by simpa using Rd.shape (hM.sl 0 rfl))
                | exact (by simpa using Rd.shape (hM.sl 1 rfl))
            refine H.take 10 rfl rfl (by kernel_rfl) (by kernel_rfl) (by kernel_rfl) hS (fun w' hS => by have hM := hM0.ext hS; exact Y.buildC (cs := [_, _, _]) [.int .i64 0, .int .i64 0, .slice none 0 0] [0, 1, 2] rfl rfl (by kernel_rfl)) rfl ?_
            refine H.only 11 rfl (by kernel_rfl) ?_
            refine E.allocM (z := .agg #[.int .i64 0, .int .i64 0, .slice none 0 0]) (cs := [.int .i64 0, .int .i64 0, .slice none 0 0]) hM (by kernel_rfl) rfl rfl ?_
            intro b11 w12 hM
            try dsimp only [List.nil_append, List.cons_append, List.set_cons_zero, List.set_cons_succ, repl] at hM
            have hS := hM.toExt
            refine H.back hS ?_
            refine H.only 12 rfl (by kernel_rfl) ?_
            first
              | refine E.storeAM 0 hM rfl rfl rfl (by kernel_rfl) rfl ?_ ?_
              | refine E.storeAM 1 hM rfl rfl rfl (by kernel_rfl) rfl ?_ ?_
              | refine E.storeAM 2 hM rfl rfl rfl (by kernel_rfl) rfl ?_ ?_
              | refine E.storeAM 3 hM rfl rfl rfl (by kernel_rfl) rfl ?_ ?_
              | refine E.storeAM 4 hM rfl rfl rfl (by kernel_rfl) rfl ?_ ?_
              | refine E.storeAM 5 hM rfl rfl rfl (by kernel_rfl) rfl ?_ ?_
              | refine E.storeAM 6 hM rfl rfl rfl (by kernel_rfl) rfl ?_ ?_
              | refine E.storeAM 7 hM rfl rfl rfl (by kernel_rfl) rfl ?_ ?_
            · exact ones (by first | rfl | exact (hM.sl 0 rfl).one | exact (hM.sl 1 rfl).one | exact (hM.sl 2 rfl).one | exact (hM.sl 3 rfl).one | exact (hM.sl 4 rfl).one | exact (hM.sl 5 rfl).one | exact (hM.sl 6 rfl).one | exact (hM.sl 7 rfl).one | exact (hM.slF 0 rfl).one | exact (hM.slF 1 rfl).one | exact (hM.slF 2 rfl).one | exact (hM.slF 3 rfl).one | exact (hM.slF 4 rfl).one | exact (hM.slF 5 rfl).one | exact (hM.slF 6 rfl).one | exact (hM.slF 7 rfl).one | exact RdL.one (by assumption) | exact RdF.one (by assumption) | assumption) <| ones (by first | rfl | exact (hM.sl 0 rfl).one | exact (hM.sl 1 rfl).one | exact (hM.sl 2 rfl).one | exact (hM.sl 3 rfl).one | exact (hM.sl 4 rfl).one | exact (hM.sl 5 rfl).one | exact (hM.sl 6 rfl).one | exact (hM.sl 7 rfl).one | exact (hM.slF 0 rfl).one | exact (hM.slF 1 rfl).one | exact (hM.slF 2 rfl).one | exact (hM.slF 3 rfl).one | exact (hM.slF 4 rfl).one | exact (hM.slF 5 rfl).one | exact (hM.slF 6 rfl).one | exact (hM.slF 7 rfl).one | exact RdL.one (by assumption) | exact RdF.one (by assumption) | assumption) <| ones (by first | rfl | exact (hM.sl 0 rfl).one | exact (hM.sl 1 rfl).one | exact (hM.sl 2 rfl).one | exact (hM.sl 3 rfl).one | exact (hM.sl 4 rfl).one | exact (hM.sl 5 rfl).one | exact (hM.sl 6 rfl).one | exact (hM.sl 7 rfl).one | exact (hM.slF 0 rfl).one | exact (hM.slF 1 rfl).one | exact (hM.slF 2 rfl).one | exact (hM.slF 3 rfl).one | exact (hM.slF 4 rfl).one | exact (hM.slF 5 rfl).one | exact (hM.slF 6 rfl).one | exact (hM.slF 7 rfl).one | exact RdL.one (by assumption) | exact RdF.one (by assumption) | assumption) <| ones_nil
            intro w13 hM
            try dsimp only [List.nil_append, List.cons_append, List.set_cons_zero, List.set_cons_succ, repl] at hM
            have hS := hM.toExt
            refine H.back hS ?_
            refine H.done (by kernel_rfl) ?_
            have hM := hM0.call hM

            refine X.join2 b11 _ (Sub.cons rfl <| Sub.nil _) rfl (hM.pick [0, 1, 2, 3, 5, 4] (by decide))
          ·
            refine E.allocM (z := .agg #[.int .i64 0, .int .i64 0, .slice none 0 0]) (cs := [.int .i64 0, .int .i64 0, .slice none 0 0]) hM (by kernel_rfl) rfl rfl ?_
            intro b11 w14 hM
            try dsimp only [List.nil_append, List.cons_append, List.set_cons_zero, List.set_cons_succ, repl] at hM
            have hS := hM.toExt
            refine H.back hS ?_
            refine H.only 9 rfl (by kernel_rfl) ?_
            refine E.makeM (by_ := 1) (enc := Value.bool) false hM rfl Try.underlying22 (by kernel_rfl) rfl (by first | omega | (simp only [List.length_replicate, List.length_append, List.length_set, List.length_cons, List.length_nil, List.length_map, List.length_range, List.length_take, List.length_drop, List.length_zipWith] at *; omega)) (by first | omega | (simp only [List.length_replicate, List.length_append, List.length_set, List.length_cons, List.length_nil, List.length_map, List.length_range, List.length_take, List.length_drop, List.length_zipWith] at *; omega)) rfl ?_
            intro v91 w15 hM
            try dsimp only [List.nil_append, List.cons_append, List.set_cons_zero, List.set_cons_succ, repl] at hM
            have hS := hM.toExt
            refine H.back hS ?_
            obtain ⟨c1, c2, rfl⟩ : ∃ c1 c2, v91 = .slice c1 (p * q) c2 := by
              first
                | exact (by simpa using Rd.shape (hM.sl 0 rfl))
                | exact (by simpa using Rd.shape (hM.sl 1 rfl))
            refine H.take 10 rfl rfl (by kernel_rfl) (by kernel_rfl) (by kernel_rfl) hS (fun w' hS => by have hM := hM0.ext hS; exact Y.buildC (cs := [_, _, _]) [.int .i64 0, .int .i64 0, .slice none 0 0] [0, 1, 2] rfl rfl (by kernel_rfl)) rfl ?_
            refine H.only 12 rfl (by kernel_rfl) ?_
            first
              | refine E.storeAM 0 hM rfl rfl rfl (by kernel_rfl) rfl ?_ ?_
              | refine E.storeAM 1 hM rfl rfl rfl (by kernel_rfl) rfl ?_ ?_
              | refine E.storeAM 2 hM rfl rfl rfl (by kernel_rfl) rfl ?_ ?_
              | refine E.storeAM 3 hM rfl rfl rfl (by kernel_rfl) rfl ?_ ?_
              | refine E.storeAM 4 hM rfl rfl rfl (by kernel_rfl) rfl ?_ ?_
              | refine E.storeAM 5 hM rfl rfl rfl (by kernel_rfl) rfl ?_ ?_
              | refine E.storeAM 6 hM rfl rfl rfl (by kernel_rfl) rfl ?_ ?_
              | refine E.storeAM 7 hM rfl rfl rfl (by kernel_rfl) rfl ?_ ?_
            · exact ones (by first | rfl | exact (hM.sl 0 rfl).one | exact (hM.sl 1 rfl).one | exact (hM.sl 2 rfl).one | exact (hM.sl 3 rfl).one | exact (hM.sl 4 rfl).one | exact (hM.sl 5 rfl).one | exact (hM.sl 6 rfl).one | exact (hM.sl 7 rfl).one | exact (hM.slF 0 rfl).one | exact (hM.slF 1 rfl).one | exact (hM.slF 2 rfl).one | exact (hM.slF 3 rfl).one | exact (hM.slF 4 rfl).one | exact (hM.slF 5 rfl).one | exact (hM.slF 6 rfl).one | exact (hM.slF 7 rfl).one | exact RdL.one (by assumption) | exact RdF.one (by assumption) | assumption) <| ones (by first | rfl | exact (hM.sl 0 rfl).one | exact (hM.sl 1 rfl).one | exact (hM.sl 2 rfl).one | exact (hM.sl 3 rfl).one | exact (hM.sl 4 rfl).one | exact (hM.sl 5 rfl).one | exact (hM.sl 6 rfl).one | exact (hM.sl 7 rfl).one | exact (hM.slF 0 rfl).one | exact (hM.slF 1 rfl).one | exact (hM.slF 2 rfl).one | exact (hM.slF 3 rfl).one | exact (hM.slF 4 rfl).one | exact (hM.slF 5 rfl).one | exact (hM.slF 6 rfl).one | exact (hM.slF 7 rfl).one | exact RdL.one (by assumption) | exact RdF.one (by assumption) | assumption) <| ones (by first | rfl | exact (hM.sl 0 rfl).one | exact (hM.sl 1 rfl).one | exact (hM.sl 2 rfl).one | exact (hM.sl 3 rfl).one | exact (hM.sl 4 rfl).one | exact (hM.sl 5 rfl).one | exact (hM.sl 6 rfl).one | exact (hM.sl 7 rfl).one | exact (hM.slF 0 rfl).one | exact (hM.slF 1 rfl).one | exact (hM.slF 2 rfl).one | exact (hM.slF 3 rfl).one | exact (hM.slF 4 rfl).one | exact (hM.slF 5 rfl).one | exact (hM.slF 6 rfl).one | exact (hM.slF 7 rfl).one | exact RdL.one (by assumption) | exact RdF.one (by assumption) | assumption) <| ones_nil
            intro w16 hM
            try dsimp only [List.nil_append, List.cons_append, List.set_cons_zero, List.set_cons_succ, repl] at hM
            have hS := hM.toExt
            refine H.back hS ?_
            refine H.done (by kernel_rfl) ?_
            have hM := hM0.call hM

            refine X.join2 b11 _ (Sub.cons rfl <| Sub.nil _) rfl (hM.pick [0, 1, 2, 3, 4, 5] (by decide))
        rintro b11 vo w17 hM
        refine C.seq <| C.seq <| C.region <| ?_
        refine E.fld (o := 3) (sz := 0) rfl Try.underlying34 rfl rfl (by kernel_rfl) rfl ?_
        refine E.load rfl Try.underlying3 rfl (by first | exact hM.bcell 0 rfl rfl | exact hM.bcell 1 rfl rfl | exact hM.bcell 2 rfl rfl | exact hM.bcell 3 rfl rfl | exact hM.bcell 4 rfl rfl | exact hM.bcell 5 rfl rfl | exact hM.bcell 6 rfl rfl | exact hM.bcell 7 rfl rfl) rfl ?_
        refine E.mv rfl rfl <| E.nil <| X.next <| C.block <| ?_

        refine C.loop1 [(1, _), (3, _), (4, _), (8, _), (10, _), (11, _), (94, _)] rfl (fun (j : Nat) => [(95, i64 j)]) (fun (j : Nat) w' => M w (Nn) w' [Rg.blk b4 24 [i64 a, i64 b, .slice c0 n cap0], Rg.blk b6 38 [i64 x, i64 y, i64 p, i64 q, i64 ar, i64 fx, i64 fy], Rg.blk b8 24 [i64 0, i64 0, nilS], Rg.blk b10 34 [i64 x, i64 y, i64 p, i64 q], Rg.blk b11 24 [i64 p, i64 q, vo], Rg.sl Value.bool 4 vo (tab (j * p) (extf labels a x y p num) ++ List.replicate (p * q - j * p) false)] ∧ j ≤ q) (fun (j : Nat) => q - j) 0 ?_ ?_ ?_
        · exact Sub.cons rfl <| Sub.nil _
        · exact ⟨by simpa [tab_zero] using hM, Nat.zero_le _⟩
        rintro j w18 ⟨hM, hj⟩
        refine C.seq <| C.region <| E.bin rfl rfl rfl rfl <| E.nil <| X.next <| C.seq <| ?_
        refine C.cond' rfl (fun hC3 => ?_) (fun hC3 => ?_)
        ·
          have hj' : j < q := by omega
          refine C.skip <| X.next <| C.seq <| C.block <| C.seq <| C.region <| E.mv rfl rfl <| E.asg rfl rfl <| E.nil <| X.next <| C.seq <| C.region <| ?_
          refine E.fld (o := 2) (sz := 0) rfl Try.underlying34 rfl rfl (by kernel_rfl) rfl ?_
          refine E.load rfl Try.underlying3 rfl (by first | exact hM.bcell 0 rfl rfl | exact hM.bcell 1 rfl rfl | exact hM.bcell 2 rfl rfl | exact hM.bcell 3 rfl rfl | exact hM.bcell 4 rfl rfl | exact hM.bcell 5 rfl rfl | exact hM.bcell 6 rfl rfl | exact hM.bcell 7 rfl rfl) rfl ?_
          refine E.mv rfl rfl <| E.nil <| X.next <| C.block <| ?_

          refine C.loop1 [(1, _), (3, _), (4, _), (8, _), (10, _), (11, _), (12, _), (94, _), (95, _), (99, _)] rfl (fun (i : Nat) => [(100, i64 i)]) (fun (i : Nat) w' => M w (Nn) w' [Rg.blk b4 24 [i64 a, i64 b, .slice c0 n cap0], Rg.blk b6 38 [i64 x, i64 y, i64 p, i64 q, i64 ar, i64 fx, i64 fy], Rg.blk b8 24 [i64 0, i64 0, nilS], Rg.blk b10 34 [i64 x, i64 y, i64 p, i64 q], Rg.blk b11 24 [i64 p, i64 q, vo], Rg.sl Value.bool 4 vo (tab (j * p + i) (extf labels a x y p num) ++ List.replicate (p * q - (j * p + i)) false)] ∧ i ≤ p) (fun (i : Nat) => p - i) 0 ?_ ?_ ?_
          · exact Sub.cons rfl <| Sub.nil _
          · exact ⟨hM, Nat.zero_le _⟩
          rintro i w19 ⟨hM, hi⟩
          refine C.seq <| C.region <| E.bin rfl rfl rfl rfl <| E.nil <| X.next <| C.seq <| ?_
          refine C.cond' rfl (fun hC4 => ?_) (fun hC4 => ?_)
          ·
            have hi' : i < p := by omega
            have hjp : j * p ≤ 4096 * 4096 := Nat.mul_le_mul (by omega) (by omega)
            have hyj : (y + j) * a ≤ 4096 * 4096 := Nat.mul_le_mul (by omega) (by omega)
            have hlt := ext_lt hp.2 hq.2 hi' hj'
            have hrow := row_lt hi' hj'
            have hdf := extf_at (num := num) hi' (show (y + j) * a + x + i < labels.length by omega)
            have hm1 : (j : Int) * (p : Int) = ((j * p : Nat) : Int) := (Int.natCast_mul j p).symm
            have hm2 : ((y + j : Nat) : Int) * (a : Int) = (((y + j) * a : Nat) : Int) := (Int.natCast_mul (y + j) a).symm
            have htl : (tab (j * p + i) (extf labels a x y p num) ++ List.replicate (p * q - (j * p + i)) false).length = p * q := by rw [List.length_append, tab_len, List.length_replicate]; omega
            refine C.skip <| X.next <| C.seq <| C.block <| C.seq <| C.region <| E.mv rfl rfl <| E.asg rfl rfl <| E.nil <| X.next <| C.drawnT 26 (by kernel_rfl) (by kernel_rfl) fun wh20 hwh20 => ?_
            have hM := hM.ext hwh20
            refine S.fld (o := 2) (sz := 0) rfl Try.underlying24 rfl rfl (by kernel_rfl) rfl ?_
            refine S.load rfl Try.underlying22 rfl (by first | exact hM.bcell 0 rfl rfl | exact hM.bcell 1 rfl rfl | exact hM.bcell 2 rfl rfl | exact hM.bcell 3 rfl rfl | exact hM.bcell 4 rfl rfl | exact hM.bcell 5 rfl rfl | exact hM.bcell 6 rfl rfl | exact hM.bcell 7 rfl rfl) rfl ?_
            refine S.mv rfl rfl <| ?_
            refine S.fld (o := 2) (sz := 0) rfl Try.underlying34 rfl rfl (by kernel_rfl) rfl ?_
            refine S.load rfl Try.underlying3 rfl (by first | exact hM.bcell 0 rfl rfl | exact hM.bcell 1 rfl rfl | exact hM.bcell 2 rfl rfl | exact hM.bcell 3 rfl rfl | exact hM.bcell 4 rfl rfl | exact hM.bcell 5 rfl rfl | exact hM.bcell 6 rfl rfl | exact hM.bcell 7 rfl rfl) rfl ?_
            refine S.mulN rfl rfl (by first | omega | (simp only [List.length_replicate, List.length_append, List.length_set, List.length_cons, List.length_nil, List.length_map, List.length_range, List.length_take, List.length_drop, List.length_zipWith] at *; omega)) rfl ?_
            refine S.mv rfl rfl <| ?_
            refine S.addN rfl rfl (by first | omega | (simp only [List.length_replicate, List.length_append, List.length_set, List.length_cons, List.length_nil, List.length_map, List.length_range, List.length_take, List.length_drop, List.length_zipWith] at *; omega)) rfl ?_
            refine S.mv rfl rfl <| ?_
            refine S.fld (o := 1) (sz := 0) rfl Try.underlying34 rfl rfl (by kernel_rfl) rfl ?_
            refine S.load rfl Try.underlying3 rfl (by first | exact hM.bcell 0 rfl rfl | exact hM.bcell 1 rfl rfl | exact hM.bcell 2 rfl rfl | exact hM.bcell 3 rfl rfl | exact hM.bcell 4 rfl rfl | exact hM.bcell 5 rfl rfl | exact hM.bcell 6 rfl rfl | exact hM.bcell 7 rfl rfl) rfl ?_
            refine S.mv rfl rfl <| ?_
            refine S.addN rfl rfl (by first | omega | (simp only [List.length_replicate, List.length_append, List.length_set, List.length_cons, List.length_nil, List.length_map, List.length_range, List.length_take, List.length_drop, List.length_zipWith] at *; omega)) rfl ?_
            refine S.fld (o := 0) (sz := 0) rfl Try.underlying24 rfl rfl (by kernel_rfl) rfl ?_
            refine S.load rfl Try.underlying3 rfl (by first | exact hM.bcell 0 rfl rfl | exact hM.bcell 1 rfl rfl | exact hM.bcell 2 rfl rfl | exact hM.bcell 3 rfl rfl | exact hM.bcell 4 rfl rfl | exact hM.bcell 5 rfl rfl | exact hM.bcell 6 rfl rfl | exact hM.bcell 7 rfl rfl) rfl ?_
            refine S.mulN rfl rfl (by first | omega | (simp only [List.length_replicate, List.length_append, List.length_set, List.length_cons, List.length_nil, List.length_map, List.length_range, List.length_take, List.length_drop, List.length_zipWith] at *; omega)) rfl ?_
            refine S.fld (o := 0) (sz := 0) rfl Try.underlying34 rfl rfl (by kernel_rfl) rfl ?_
            refine S.load rfl Try.underlying3 rfl (by first | exact hM.bcell 0 rfl rfl | exact hM.bcell 1 rfl rfl | exact hM.bcell 2 rfl rfl | exact hM.bcell 3 rfl rfl | exact hM.bcell 4 rfl rfl | exact hM.bcell 5 rfl rfl | exact hM.bcell 6 rfl rfl | exact hM.bcell 7 rfl rfl) rfl ?_
            refine S.addN rfl rfl (by first | omega | (simp only [List.length_replicate, List.length_append, List.length_set, List.length_cons, List.length_nil, List.length_map, List.length_range, List.length_take, List.length_drop, List.length_zipWith] at *; omega)) rfl ?_
            refine S.mv rfl rfl <| ?_
            refine S.addN rfl rfl (by first | omega | (simp only [List.length_replicate, List.length_append, List.length_set, List.length_cons, List.length_nil, List.length_map, List.length_range, List.length_take, List.length_drop, List.length_zipWith] at *; omega)) rfl ?_
            refine S.idx1 (k := _) rfl rfl (by first | exact hM.sl 0 rfl | exact hM.sl 1 rfl | exact hM.sl 2 rfl | exact hM.sl 3 rfl | exact hM.sl 4 rfl | exact hM.sl 5 rfl | exact hM.sl 6 rfl | exact hM.sl 7 rfl | exact hM.arg0 (by assumption) | exact hM.arg (by assumption) (by assumption) | assumption) rfl (by first | omega | (simp only [List.length_replicate, List.length_append, List.length_set, List.length_cons, List.length_nil, List.length_map, List.length_range, List.length_take, List.length_drop, List.length_zipWith] at *; omega)) Try.underlying27 (by kernel_rfl) rfl ?_
            refine S.load rfl Try.underlying3 rfl (by first | exact (hM.sl 0 rfl).cellA rfl (by first | omega | (simp only [List.length_replicate, List.length_append, List.length_set, List.length_cons, List.length_nil, List.length_map, List.length_range, List.length_take, List.length_drop, List.length_zipWith] at *; omega)) | exact (hM.sl 1 rfl).cellA rfl (by first | omega | (simp only [List.length_replicate, List.length_append, List.length_set, List.length_cons, List.length_nil, List.length_map, List.length_range, List.length_take, List.length_drop, List.length_zipWith] at *; omega)) | exact (hM.sl 2 rfl).cellA rfl (by first | omega | (simp only [List.length_replicate, List.length_append, List.length_set, List.length_cons, List.length_nil, List.length_map, List.length_range, List.length_take, List.length_drop, List.length_zipWith] at *; omega)) | exact (hM.sl 3 rfl).cellA rfl (by first | omega | (simp only [List.length_replicate, List.length_append, List.length_set, List.length_cons, List.length_nil, List.length_map, List.length_range, List.length_take, List.length_drop, List.length_zipWith] at *; omega)) | exact (hM.sl 4 rfl).cellA rfl (by first | omega | (simp only [List.length_replicate, List.length_append, List.length_set, List.length_cons, List.length_nil, List.length_map, List.length_range, List.length_take, List.length_drop, List.length_zipWith] at *; omega)) | exact (hM.sl 5 rfl).cellA rfl (by first | omega | (simp only [List.length_replicate, List.length_append, List.length_set, List.length_cons, List.length_nil, List.length_map, List.length_range, List.length_take, List.length_drop, List.length_zipWith] at *; omega)) | exact (hM.sl 6 rfl).cellA rfl (by first | omega | (simp only [List.length_replicate, List.length_append, List.length_set, List.length_cons, List.length_nil, List.length_map, List.length_range, List.length_take, List.length_drop, List.length_zipWith] at *; omega)) | exact (hM.sl 7 rfl).cellA rfl (by first | omega | (simp only [List.length_replicate, List.length_append, List.length_set, List.length_cons, List.length_nil, List.length_map, List.length_range, List.length_take, List.length_drop, List.length_zipWith] at *; omega)) | exact (hM.arg0 (by assumption)).cellA rfl (by first | omega | (simp only [List.length_replicate, List.length_append, List.length_set, List.length_cons, List.length_nil, List.length_map, List.length_range, List.length_take, List.length_drop, List.length_zipWith] at *; omega)) | exact (hM.arg (by assumption) (by assumption)).cellA rfl (by first | omega | (simp only [List.length_replicate, List.length_append, List.length_set, List.length_cons, List.length_nil, List.length_map, List.length_range, List.length_take, List.length_drop, List.length_zipWith] at *; omega))) rfl ?_
            refine S.mv rfl rfl <| S.bin rfl rfl rfl rfl <| ?_
            refine S.idx1 (k := _) rfl rfl (by first | exact hM.sl 0 rfl | exact hM.sl 1 rfl | exact hM.sl 2 rfl | exact hM.sl 3 rfl | exact hM.sl 4 rfl | exact hM.sl 5 rfl | exact hM.sl 6 rfl | exact hM.sl 7 rfl | exact hM.arg0 (by assumption) | exact hM.arg (by assumption) (by assumption) | assumption) rfl (by first | omega | (simp only [List.length_replicate, List.length_append, List.length_set, List.length_cons, List.length_nil, List.length_map, List.length_range, List.length_take, List.length_drop, List.length_zipWith] at *; omega)) Try.underlying22 (by kernel_rfl) rfl ?_
            refine S.nil ?_
            first
              | refine E.storeL 0 _ hM rfl rfl rfl (by kernel_rfl) rfl rfl ?_ ?_
              | refine E.storeL 1 _ hM rfl rfl rfl (by kernel_rfl) rfl rfl ?_ ?_
              | refine E.storeL 2 _ hM rfl rfl rfl (by kernel_rfl) rfl rfl ?_ ?_
              | refine E.storeL 3 _ hM rfl rfl rfl (by kernel_rfl) rfl rfl ?_ ?_
              | refine E.storeL 4 _ hM rfl rfl rfl (by kernel_rfl) rfl rfl ?_ ?_
              | refine E.storeL 5 _ hM rfl rfl rfl (by kernel_rfl) rfl rfl ?_ ?_
              | refine E.storeL 6 _ hM rfl rfl rfl (by kernel_rfl) rfl rfl ?_ ?_
              | refine E.storeL 7 _ hM rfl rfl rfl (by kernel_rfl) rfl rfl ?_ ?_
            · exact (by first | omega | (simp only [List.length_replicate, List.length_append, List.length_set, List.length_cons, List.length_nil, List.length_map, List.length_range, List.length_take, List.length_drop, List.length_zipWith] at *; omega))
            intro w21 hM
            try dsimp only [List.nil_append, List.cons_append, List.set_cons_zero, List.set_cons_succ, repl] at hM
            refine E.nil <| X.outN <| X.next <| C.region <| ?_
            refine E.add rfl rfl (by omega) rfl ?_

            refine E.mv rfl rfl <| E.nil <| X.again1 (i + 1) (Sub.cons rfl <| Sub.nil _) rfl ⟨by rw [show j * p + (i + 1) = j * p + i + 1 from rfl, ← tab_set hrow, hdf]; exact hM, by omega⟩ (by omega)
          ·
            obtain rfl : p = i := by omega
            refine C.exit <| X.exitT <| X.exitT <| X.outE <| X.outN <| X.next <| C.region <| ?_
            refine E.add rfl rfl (by omega) rfl ?_

            refine E.mv rfl rfl <| E.nil <| X.again1 (j + 1) (Sub.cons rfl <| Sub.nil _) rfl ⟨by rw [Nat.succ_mul]; exact hM, by omega⟩ (by omega)
        ·
          obtain rfl : q = j := by omega
          rw [Nat.mul_comm q p, Nat.sub_self, List.replicate_zero, List.append_nil] at hM
          refine C.exit <| X.exitT <| X.exitT <| X.outE <| X.next <| C.seq <| C.region <| ?_
          refine E.loadA rfl Try.underlying24 rfl (by kernel_rfl) (by first | exact hM.bat 0 rfl | exact hM.bat 1 rfl | exact hM.bat 2 rfl | exact hM.bat 3 rfl | exact hM.bat 4 rfl | exact hM.bat 5 rfl | exact hM.bat 6 rfl | exact hM.bat 7 rfl) rfl ?_
          first
            | refine E.storeAM 0 hM rfl rfl rfl (by kernel_rfl) rfl ?_ ?_
            | refine E.storeAM 1 hM rfl rfl rfl (by kernel_rfl) rfl ?_ ?_
            | refine E.storeAM 2 hM rfl rfl rfl (by kernel_rfl) rfl ?_ ?_
            | refine E.storeAM 3 hM rfl rfl rfl (by kernel_rfl) rfl ?_ ?_
            | refine E.storeAM 4 hM rfl rfl rfl (by kernel_rfl) rfl ?_ ?_
            | refine E.storeAM 5 hM rfl rfl rfl (by kernel_rfl) rfl ?_ ?_
            | refine E.storeAM 6 hM rfl rfl rfl (by kernel_rfl) rfl ?_ ?_
            | refine E.storeAM 7 hM rfl rfl rfl (by kernel_rfl) rfl ?_ ?_
          · exact ones (by first | rfl | exact (hM.sl 0 rfl).one | exact (hM.sl 1 rfl).one | exact (hM.sl 2 rfl).one | exact (hM.sl 3 rfl).one | exact (hM.sl 4 rfl).one | exact (hM.sl 5 rfl).one | exact (hM.sl 6 rfl).one | exact (hM.sl 7 rfl).one | exact (hM.slF 0 rfl).one | exact (hM.slF 1 rfl).one | exact (hM.slF 2 rfl).one | exact (hM.slF 3 rfl).one | exact (hM.slF 4 rfl).one | exact (hM.slF 5 rfl).one | exact (hM.slF 6 rfl).one | exact (hM.slF 7 rfl).one | exact RdL.one (by assumption) | exact RdF.one (by assumption) | assumption) <| ones (by first | rfl | exact (hM.sl 0 rfl).one | exact (hM.sl 1 rfl).one | exact (hM.sl 2 rfl).one | exact (hM.sl 3 rfl).one | exact (hM.sl 4 rfl).one | exact (hM.sl 5 rfl).one | exact (hM.sl 6 rfl).one | exact (hM.sl 7 rfl).one | exact (hM.slF 0 rfl).one | exact (hM.slF 1 rfl).one | exact (hM.slF 2 rfl).one | exact (hM.slF 3 rfl).one | exact (hM.slF 4 rfl).one | exact (hM.slF 5 rfl).one | exact (hM.slF 6 rfl).one | exact (hM.slF 7 rfl).one | exact RdL.one (by assumption) | exact RdF.one (by assumption) | assumption) <| ones (by first | rfl | exact (hM.sl 0 rfl).one | exact (hM.sl 1 rfl).one | exact (hM.sl 2 rfl).one | exact (hM.sl 3 rfl).one | exact (hM.sl 4 rfl).one | exact (hM.sl 5 rfl).one | exact (hM.sl 6 rfl).one | exact (hM.sl 7 rfl).one | exact (hM.slF 0 rfl).one | exact (hM.slF 1 rfl).one | exact (hM.slF 2 rfl).one | exact (hM.slF 3 rfl).one | exact (hM.slF 4 rfl).one | exact (hM.slF 5 rfl).one | exact (hM.slF 6 rfl).one | exact (hM.slF 7 rfl).one | exact RdL.one (by assumption) | exact RdF.one (by assumption) | assumption) <| ones_nil
          intro w22 hM
          try dsimp only [List.nil_append, List.cons_append, List.set_cons_zero, List.set_cons_succ, repl] at hM
          refine E.asg rfl rfl <| E.nil <| X.next <| C.ret <| retAT rfl rfl rfl Try.underlying24 rfl (by first | exact hM.blk 0 rfl | exact hM.blk 1 rfl | exact hM.blk 2 rfl | exact hM.blk 3 rfl | exact hM.blk 4 rfl | exact hM.blk 5 rfl | exact hM.blk 6 rfl | exact hM.blk 7 rfl) (by kernel_rfl) ?_
          exact ⟨_, _, _, _, _, rfl, .inr (.inr ⟨hok, hin, rfl, rfl, rfl, rfl⟩), hM.pick [5] (by decide)⟩

end Go.Proofs.Ytnnmebpahickhaa
