/- Texts of the claim, laid together: Lg. -/
import Derived.Test.YtnnmebpahickhaaComponentsSymmetricTopMg30
/- ref31: Enlarge. -/
namespace Go.Proofs.Ytnnmebpahickhaa
set_option linter.unusedSimpArgs false
set_option linter.unusedVariables false
open Go.RowKit Sym Uf

def lgf (a : Nat) (dk : List Bool) (i : Nat) : Bool := dk.getD (i / (2 * a) / 2 * a + i % (2 * a) / 2) false
theorem lgf_at {a x y : Nat} {dk : List Bool} (hx : x < 2 * a) : lgf a dk (y * (2 * a) + x) = dk.getD (y / 2 * a + x / 2) false := by
  obtain ⟨h1, h2⟩ := divmod_of (j := y * (2 * a) + x) rfl hx
  rw [lgf, h1, h2]
theorem lg_ar {a b : Nat} {dk : List Bool} (ha : 0 < a) (hn : dk.length = a * b) : (ar8 (2 * a) (tab (2 * a * (2 * b)) (lgf a dk))).Perm ((ar8 a dk).map fun x => ((4 : Nat) : Int) * x) := by
  refine large_ar ha hn (by rw [tab_len]) fun i hi => ?_
  rw [tab_len] at hi
  have hm := Nat.mod_lt i (show 0 < 2 * a by omega)
  have hd : i / (2 * a) < 2 * b := Nat.div_lt_of_lt_mul hi
  have hlt : i / (2 * a) / 2 * a + i % (2 * a) / 2 < dk.length := by rw [hn]; exact row_lt (by omega) (by omega)
  rw [tab_get hi, lgf, List.getD_eq_getElem?_getD, List.getElem?_eq_getElem hlt]; rfl
set_option maxHeartbeats 2000000 in
theorem Enlarge_ret (a b : Nat) (vd : Value) (dk : List Bool) (w : World) (hr : RdL Value.bool w vd dk) (hok : okMat (a : Int) (b : Int) dk.length) (hsm : dk.length ≤ 400) :
    Ret Try.prog 30 #[mat a b vd, i64 2] w fun v w' => MatAns (fun W1 H1 l e => W1 = ((2 * a : Nat) : Int) ∧ H1 = ((2 * b : Nat) : Int) ∧ e = 0 ∧ l = tab (2 * a * (2 * b)) (lgf a dk)) v w w' := by
  obtain ⟨a0, b0, ea, eb, hW, hH, hn, hn0⟩ := hok.nat
  obtain rfl : a = a0 := by omega
  obtain rfl : b = b0 := by omega
  have hfit : okSize ((2 * a : Nat) : Int) ((2 * b : Nat) : Int) := by
    have k1 := Nat.le_mul_of_pos_right a (show 0 < b by omega)
    have k2 := Nat.le_mul_of_pos_left b (show 0 < a by omega)
    have k3 : ((2 * a : Nat) : Int) * ((2 * b : Nat) : Int) = ((4 * (a * b) : Nat) : Int) := by rw [← Int.natCast_mul, show 2 * a * (2 * b) = 4 * (a * b) from by rw [Nat.mul_assoc, Nat.mul_left_comm a 2 b, ← Nat.mul_assoc]]
    unfold okSize
    rw [k3]; omega
  have hM := M.start w
  refine enter Try.func30 rfl (by kernel_rfl) Try.ntmps30 rfl ?_
  refine C.seq <| C.region <| ?_
  refine E.boxM hM rfl rfl rfl ?_
  intro b2 w0 hM
  try dsimp only [List.nil_append, List.cons_append, List.set_cons_zero, List.set_cons_succ, repl] at hM
  refine E.allocM (z := .agg #[.int .i64 0, .int .i64 0, .slice none 0 0]) (cs := [.int .i64 0, .int .i64 0, .slice none 0 0]) hM (by kernel_rfl) rfl rfl ?_
  intro b4 w1 hM
  try dsimp only [List.nil_append, List.cons_append, List.set_cons_zero, List.set_cons_succ, repl] at hM
  refine E.asg rfl rfl <| E.nil <| X.next <| C.seq <| C.seq <| C.region <| ?_
  refine E.loadA rfl Try.underlying24 rfl (by kernel_rfl) (by first | exact hM.bat 0 rfl | exact hM.bat 1 rfl | exact hM.bat 2 rfl | exact hM.bat 3 rfl | exact hM.bat 4 rfl) rfl ?_
  refine E.call rfl rfl (Valid_ret a b vd dk.length _ hr.shape) ?_
  rintro _ w1 ⟨rfl, x1⟩
  have hM := hM.ext x1
  rw [decide_eq_true hok]
  try dsimp only [List.nil_append, List.cons_append, List.set_cons_zero, List.set_cons_succ, repl] at hM
  refine E.not rfl rfl <| E.nil <| X.next <| ?_
  refine C.cond rfl (fun hC0 => ?_) (fun hC0 => ?_)
  ·
    cases hC0
  ·
    refine C.skip <| X.next <| C.seq <| ?_

    refine C.chainE [(1, _), (2, _), (4, _)] rfl [(18, .bool (decide False))] ?_ ?_
    ·
      refine C.region <| E.mv rfl rfl <| E.bin rfl rfl rfl rfl <| E.mv rfl rfl <| ?_
      refine E.split 15 rfl (fun g15 => ?_) (fun g15 => ?_)
      ·
        try simp only [decide_eq_true_eq, decide_eq_false_iff_not, ne_eq, Decidable.not_not, Bool.not_eq_true', Bool.not_eq_false'] at g15
        refine E.off rfl rfl rfl rfl <| E.off rfl rfl rfl rfl <| E.pick rfl rfl rfl <| E.nil <| X.join0 (Sub.cons (by (first | exact leaf_f (by omega) | exact leaf_t (by omega) | exact leaf_d (by omega) | exact leaf_f (by first | (simp [*] <;> fail) | omega) | exact leaf_t (by first | (simp [*] <;> fail) | omega) | exact leaf_d (by first | (simp [*] <;> fail) | omega) | exact leaf_f (by (first | omega | ((try simp only [decide_eq_true_eq, decide_eq_false_iff_not, Bool.not_eq_true', Bool.not_eq_false'] at *); first | omega | (simp_all <;> fail) | (simp_all; omega)))) | exact leaf_t (by (first | omega | ((try simp only [decide_eq_true_eq, decide_eq_false_iff_not, Bool.not_eq_true', Bool.not_eq_false'] at *); first | omega | (simp_all <;> fail) | (simp_all; omega)))) | exact leaf_d (by (first | omega | ((try simp only [decide_eq_true_eq, decide_eq_false_iff_not, Bool.not_eq_true', Bool.not_eq_false'] at *); first | omega | (simp_all <;> fail) | (simp_all; omega)))))) <| Sub.nil _) rfl rfl
      ·
        try simp only [decide_eq_true_eq, decide_eq_false_iff_not, ne_eq, Decidable.not_not, Bool.not_eq_true', Bool.not_eq_false'] at g15
        refine E.on rfl rfl (E.mv rfl rfl ?_)
        refine E.on rfl rfl (E.bin rfl rfl rfl rfl ?_)
        refine E.pick rfl rfl rfl <| E.nil <| X.join0 (Sub.cons (by (first | exact leaf_f (by omega) | exact leaf_t (by omega) | exact leaf_d (by omega) | exact leaf_f (by first | (simp [*] <;> fail) | omega) | exact leaf_t (by first | (simp [*] <;> fail) | omega) | exact leaf_d (by first | (simp [*] <;> fail) | omega) | exact leaf_f (by (first | omega | ((try simp only [decide_eq_true_eq, decide_eq_false_iff_not, Bool.not_eq_true', Bool.not_eq_false'] at *); first | omega | (simp_all <;> fail) | (simp_all; omega)))) | exact leaf_t (by (first | omega | ((try simp only [decide_eq_true_eq, decide_eq_false_iff_not, Bool.not_eq_true', Bool.not_eq_false'] at *); first | omega | (simp_all <;> fail) | (simp_all; omega)))) | exact leaf_d (by (first | omega | ((try simp only [decide_eq_true_eq, decide_eq_false_iff_not, Bool.not_eq_true', Bool.not_eq_false'] at *); first | omega | (simp_all <;> fail) | (simp_all; omega)))))) <| Sub.nil _) rfl rfl
    refine C.cond' rfl (fun hC1 => ?_) (fun hC1 => ?_)
    ·
      exact hC1.elim
    ·
      refine C.skip <| X.next <| C.seq <| C.seq <| C.region <| E.mv rfl rfl <| ?_
      refine E.fld (o := 0) (sz := 0) rfl Try.underlying24 rfl rfl (by kernel_rfl) rfl ?_
      refine E.load rfl Try.underlying3 rfl (by first | exact hM.bcell 0 rfl rfl | exact hM.bcell 1 rfl rfl | exact hM.bcell 2 rfl rfl | exact hM.bcell 3 rfl rfl | exact hM.bcell 4 rfl rfl) rfl ?_
      refine E.mulN (a := 2) (b := a) rfl rfl (by omega) rfl ?_
      refine E.mv rfl rfl <| ?_
      refine E.fld (o := 1) (sz := 0) rfl Try.underlying24 rfl rfl (by kernel_rfl) rfl ?_
      refine E.load rfl Try.underlying3 rfl (by first | exact hM.bcell 0 rfl rfl | exact hM.bcell 1 rfl rfl | exact hM.bcell 2 rfl rfl | exact hM.bcell 3 rfl rfl | exact hM.bcell 4 rfl rfl) rfl ?_
      refine E.mulN (a := 2) (b := b) rfl rfl (by omega) rfl ?_
      refine E.call rfl rfl (fits_ret _ _ _) ?_
      rintro _ w2 ⟨rfl, x2⟩
      subst x2
      rw [decide_eq_true hfit]
      try dsimp only [List.nil_append, List.cons_append, List.set_cons_zero, List.set_cons_succ, repl] at hM
      refine E.not rfl rfl <| E.nil <| X.next <| ?_
      refine C.cond rfl (fun hC2 => ?_) (fun hC2 => ?_)
      ·
        cases hC2
      ·
        refine C.skip <| X.next <| C.seq <| C.region <| E.mv rfl rfl <| ?_
        refine E.fld (o := 0) (sz := 0) rfl Try.underlying24 rfl rfl (by kernel_rfl) rfl ?_
        refine E.load rfl Try.underlying3 rfl (by first | exact hM.bcell 0 rfl rfl | exact hM.bcell 1 rfl rfl | exact hM.bcell 2 rfl rfl | exact hM.bcell 3 rfl rfl | exact hM.bcell 4 rfl rfl) rfl ?_
        refine E.mulN (a := 2) (b := a) rfl rfl (by omega) rfl ?_
        refine E.mv rfl rfl <| ?_
        refine E.fld (o := 1) (sz := 0) rfl Try.underlying24 rfl rfl (by kernel_rfl) rfl ?_
        refine E.load rfl Try.underlying3 rfl (by first | exact hM.bcell 0 rfl rfl | exact hM.bcell 1 rfl rfl | exact hM.bcell 2 rfl rfl | exact hM.bcell 3 rfl rfl | exact hM.bcell 4 rfl rfl) rfl ?_
        refine E.mulN (a := 2) (b := b) rfl rfl (by omega) rfl ?_
        refine E.buildC (cs := [_, _, _]) [.int .i64 0, .int .i64 0, .slice none 0 0] [0, 1] rfl rfl (by kernel_rfl) rfl ?_
        refine E.allocM (z := .agg #[.int .i64 0, .int .i64 0, .slice none 0 0]) (cs := [.int .i64 0, .int .i64 0, .slice none 0 0]) hM (by kernel_rfl) rfl rfl ?_
        intro b6 w4 hM
        try dsimp only [List.nil_append, List.cons_append, List.set_cons_zero, List.set_cons_succ, repl] at hM
        first
          | refine E.storeAM 0 hM rfl rfl rfl (by kernel_rfl) rfl ?_ ?_
          | refine E.storeAM 1 hM rfl rfl rfl (by kernel_rfl) rfl ?_ ?_
          | refine E.storeAM 2 hM rfl rfl rfl (by kernel_rfl) rfl ?_ ?_
          | refine E.storeAM 3 hM rfl rfl rfl (by kernel_rfl) rfl ?_ ?_
          | refine E.storeAM 4 hM rfl rfl rfl (by kernel_rfl) rfl ?_ ?_
        · exact ones (by first | rfl | exact (hM.sl 0 rfl).one | exact (hM.sl 1 rfl).one | exact (hM.sl 2 rfl).one | exact (hM.sl 3 rfl).one | exact (hM.sl 4 rfl).one | exact (hM.slF 0 rfl).one | exact (hM.slF 1 rfl).one | exact (hM.slF 2 rfl).one | exact (hM.slF 3 rfl).one | exact (hM.slF 4 rfl).one | exact RdL.one (by assumption) | exact RdF.one (by assumption) | assumption) <| ones (by first | rfl | exact (hM.sl 0 rfl).one | exact (hM.sl 1 rfl).one | exact (hM.sl 2 rfl).one | exact (hM.sl 3 rfl).one | exact (hM.sl 4 rfl).one | exact (hM.slF 0 rfl).one | exact (hM.slF 1 rfl).one | exact (hM.slF 2 rfl).one | exact (hM.slF 3 rfl).one | exact (hM.slF 4 rfl).one | exact RdL.one (by assumption) | exact RdF.one (by assumption) | assumption) <| ones (by first | rfl | exact (hM.sl 0 rfl).one | exact (hM.sl 1 rfl).one | exact (hM.sl 2 rfl).one | exact (hM.sl 3 rfl).one | exact (hM.sl 4 rfl).one | exact (hM.slF 0 rfl).one | exact (hM.slF 1 rfl).one | exact (hM.slF 2 rfl).one | exact (hM.slF 3 rfl).one | exact (hM.slF 4 rfl).one | exact RdL.one (by assumption) | exact RdF.one (by assumption) | assumption) <| ones_nil
        intro w5 hM
        try dsimp only [List.nil_append, List.cons_append, List.set_cons_zero, List.set_cons_succ, repl] at hM
        refine E.nil <| X.next <| C.seq <| C.seq <| C.region <| E.asg rfl rfl <| E.nil <| X.next <| C.block <| ?_
        have hM := hM.nil Value.bool 4
        try dsimp only [List.nil_append, List.cons_append] at hM

        refine C.loop2 [(1, _), (2, _), (4, _), (6, _)] rfl (fun (y : Nat) (vo : Value) => [(7, i64 y)]) (fun (y : Nat) (vo : Value) w' => M w (Nn) w' [Rg.blk b2 24 [i64 a, i64 b, vd], Rg.blk b4 24 [.int .i64 0, .int .i64 0, .slice none 0 0], Rg.blk b6 24 [i64 ((2 * a : Nat) : Int), i64 ((2 * b : Nat) : Int), vo], Rg.sl Value.bool 4 vo (tab (y * (2 * a)) (lgf a dk))] ∧ y ≤ 2 * b) (fun (y : Nat) (vo : Value) => 2 * b - y) 0 nilS ?_ ?_ ?_
        · exact Sub.cons rfl <| Sub.nil _
        · exact ⟨by rw [Nat.zero_mul]; exact hM, Nat.zero_le _⟩
        rintro y vo w6 ⟨hM, hy⟩
        refine C.seq <| C.seq <| C.region <| E.mv rfl rfl <| ?_
        refine E.fld (o := 1) (sz := 0) rfl Try.underlying24 rfl rfl (by kernel_rfl) rfl ?_
        refine E.load rfl Try.underlying3 rfl (by first | exact hM.bcell 0 rfl rfl | exact hM.bcell 1 rfl rfl | exact hM.bcell 2 rfl rfl | exact hM.bcell 3 rfl rfl | exact hM.bcell 4 rfl rfl) rfl ?_
        refine E.bin rfl rfl rfl rfl <| E.nil <| X.next <| ?_
        refine C.cond' rfl (fun hC3 => ?_) (fun hC3 => ?_)
        ·
          have hy' : y < 2 * b := by omega
          refine C.skip <| X.next <| C.seq <| C.block <| C.seq <| C.region <| E.asg rfl rfl <| E.nil <| X.next <| C.block <| ?_

          refine C.loop2 [(1, _), (2, _), (4, _), (6, _), (7, _)] rfl (fun (x : Nat) (vo : Value) => [(8, i64 x)]) (fun (x : Nat) (vo : Value) w' => M w (Nn) w' [Rg.blk b2 24 [i64 a, i64 b, vd], Rg.blk b4 24 [.int .i64 0, .int .i64 0, .slice none 0 0], Rg.blk b6 24 [i64 ((2 * a : Nat) : Int), i64 ((2 * b : Nat) : Int), vo], Rg.sl Value.bool 4 vo (tab (y * (2 * a) + x) (lgf a dk))] ∧ x ≤ 2 * a) (fun (x : Nat) (vo : Value) => 2 * a - x) 0 vo ?_ ?_ ?_
          · exact Sub.cons rfl <| Sub.nil _
          · exact ⟨hM, Nat.zero_le _⟩
          rintro x vo w7 ⟨hM, hx⟩
          refine C.seq <| C.seq <| C.region <| E.mv rfl rfl <| ?_
          refine E.fld (o := 0) (sz := 0) rfl Try.underlying24 rfl rfl (by kernel_rfl) rfl ?_
          refine E.load rfl Try.underlying3 rfl (by first | exact hM.bcell 0 rfl rfl | exact hM.bcell 1 rfl rfl | exact hM.bcell 2 rfl rfl | exact hM.bcell 3 rfl rfl | exact hM.bcell 4 rfl rfl) rfl ?_
          refine E.bin rfl rfl rfl rfl <| E.nil <| X.next <| ?_
          refine C.cond' rfl (fun hC4 => ?_) (fun hC4 => ?_)
          ·
            have hx' : x < 2 * a := by omega
            have htl := tab_len (y * (2 * a) + x) (lgf a dk)
            have hrow := row_lt hx' hy'
            have hbig : 2 * a * (2 * b) ≤ 1600 := by rw [show 2 * a * (2 * b) = 4 * (a * b) from by rw [Nat.mul_assoc, Nat.mul_left_comm a 2 b, ← Nat.mul_assoc]]; omega
            refine C.skip <| X.next <| C.seq <| C.block <| C.heldM hM [0, 1] (by decide) (by kernel_rfl) fun wh8 hM hS => ?_
            refine H.takeV 0 rfl rfl (by kernel_rfl) (by kernel_rfl) (by kernel_rfl) hS (Y.fld (o := 2) (sz := 0) rfl Try.underlying24 rfl rfl (by kernel_rfl)) (fun w' hM => Y.fld (o := 2) (sz := 0) rfl Try.underlying24 rfl rfl (by kernel_rfl)) rfl ?_
            refine H.take 3 rfl rfl (by kernel_rfl) (by kernel_rfl) (by kernel_rfl) hS (fun w' hM => Y.mv rfl) rfl ?_
            refine H.take 4 rfl rfl (by kernel_rfl) (by kernel_rfl) (by kernel_rfl) hS (fun w' hM => Y.mv rfl) rfl ?_
            refine H.take 5 rfl rfl (by kernel_rfl) (by kernel_rfl) (by kernel_rfl) hS (fun w' hM => Y.quo rfl rfl (by omega) (IntWalk.i64_quo _ _ (by omega))) rfl ?_
            refine H.take 6 rfl rfl (by kernel_rfl) (by kernel_rfl) (by kernel_rfl) hS (fun w' hM => Y.mv rfl) rfl ?_
            refine H.take 7 rfl rfl (by kernel_rfl) (by kernel_rfl) (by kernel_rfl) hS (fun w' hM => Y.mv rfl) rfl ?_
            refine H.take 8 rfl rfl (by kernel_rfl) (by kernel_rfl) (by kernel_rfl) hS (fun w' hM => Y.quo rfl rfl (by omega) (IntWalk.i64_quo _ _ (by omega))) rfl ?_
            refine H.takeV 2 rfl rfl (by kernel_rfl) (by kernel_rfl) (by kernel_rfl) hS (Y.loadA rfl Try.underlying24 rfl (by kernel_rfl) (by first | exact hS.bat 0 rfl | exact hS.bat 1 rfl | exact hS.bat 2 rfl | exact hS.bat 3 rfl | exact hS.bat 4 rfl)) (fun w' hM => Y.loadA rfl Try.underlying24 rfl (by kernel_rfl) (by first | exact hM.bat 0 rfl | exact hM.bat 1 rfl | exact hM.bat 2 rfl | exact hM.bat 3 rfl | exact hM.bat 4 rfl)) rfl ?_
            refine H.two 1 9 rfl rfl (by kernel_rfl) ?_ ?_
            ·
              refine E.load rfl Try.underlying22 rfl (by first | exact hM.bcell 0 rfl rfl | exact hM.bcell 1 rfl rfl | exact hM.bcell 2 rfl rfl | exact hM.bcell 3 rfl rfl | exact hM.bcell 4 rfl rfl) rfl ?_
              have hS := hM.pick [0, 1] (by decide)
              refine H.back hS ?_
              refine H.only 9 rfl (by kernel_rfl) ?_
              refine E.call rfl rfl (At_ret a b vd dk (x / 2) (y / 2) _ (hM.arg0 hr) hok (by omega) (by omega)) ?_
              rintro _ w3 ⟨rfl, x3⟩
              have hM := hM.ext x3
              try dsimp only [List.nil_append, List.cons_append, List.set_cons_zero, List.set_cons_succ, repl] at hM
              have hS := hM.pick [0, 1] (by decide)
              refine H.back hS ?_
              refine H.only 10 rfl (by kernel_rfl) ?_
              refine E.mk1M (enc := Value.bool) _ hM rfl Try.underlying22 elem_Tbool rfl rfl ?_
              intro v62 w10 hM
              try dsimp only [List.nil_append, List.cons_append, List.set_cons_zero, List.set_cons_succ, repl] at hM
              have hS := hM.pick [0, 1] (by decide)
              refine H.back hS ?_
              refine H.only 11 rfl (by kernel_rfl) ?_
              first
                | refine E.appendM 0 hM rfl rfl rfl Try.underlying22 elem_Tbool (by first | exact hM.sl 0 rfl | exact hM.sl 1 rfl | exact hM.sl 2 rfl | exact hM.sl 3 rfl | exact hM.sl 4 rfl | exact hM.arg0 (by assumption) | exact hM.arg (by assumption) (by assumption) | assumption) ?_ ?_ ?_ rfl ?_
                | refine E.appendM 1 hM rfl rfl rfl Try.underlying22 elem_Tbool (by first | exact hM.sl 0 rfl | exact hM.sl 1 rfl | exact hM.sl 2 rfl | exact hM.sl 3 rfl | exact hM.sl 4 rfl | exact hM.arg0 (by assumption) | exact hM.arg (by assumption) (by assumption) | assumption) ?_ ?_ ?_ rfl ?_
                | refine E.appendM 2 hM rfl rfl rfl Try.underlying22 elem_Tbool (by first | exact hM.sl 0 rfl | exact hM.sl 1 rfl | exact hM.sl 2 rfl | exact hM.sl 3 rfl | exact hM.sl 4 rfl | exact hM.arg0 (by assumption) | exact hM.arg (by assumption) (by assumption) | assumption) ?_ ?_ ?_ rfl ?_
                | refine E.appendM 3 hM rfl rfl rfl Try.underlying22 elem_Tbool (by first | exact hM.sl 0 rfl | exact hM.sl 1 rfl | exact hM.sl 2 rfl | exact hM.sl 3 rfl | exact hM.sl 4 rfl | exact hM.arg0 (by assumption) | exact hM.arg (by assumption) (by assumption) | assumption) ?_ ?_ ?_ rfl ?_
                | refine E.appendM 4 hM rfl rfl rfl Try.underlying22 elem_Tbool (by first | exact hM.sl 0 rfl | exact hM.sl 1 rfl | exact hM.sl 2 rfl | exact hM.sl 3 rfl | exact hM.sl 4 rfl | exact hM.arg0 (by assumption) | exact hM.arg (by assumption) (by assumption) | assumption) ?_ ?_ ?_ rfl ?_
              · exact fun _ => rfl
              · exact (by first | omega | (simp only [List.length_replicate, List.length_append, List.length_set, List.length_cons, List.length_nil, List.length_map, List.length_range, List.length_take, List.length_drop, List.length_zipWith] at *; omega))
              · exact (by first | omega | (simp only [List.length_replicate, List.length_append, List.length_set, List.length_cons, List.length_nil, List.length_map, List.length_range, List.length_take, List.length_drop, List.length_zipWith] at *; omega))
              intro v63 w11 hM
              try dsimp only [List.nil_append, List.cons_append, List.set_cons_zero, List.set_cons_succ, repl] at hM
              have hS := hM.pick [0, 1] (by decide)
              refine H.back hS ?_
              refine H.takeV 12 rfl rfl (by kernel_rfl) (by kernel_rfl) (by kernel_rfl) hS (Y.fld (o := 2) (sz := 0) rfl Try.underlying24 rfl rfl (by kernel_rfl)) (fun w' hM => Y.fld (o := 2) (sz := 0) rfl Try.underlying24 rfl rfl (by kernel_rfl)) rfl ?_
              refine H.only 13 rfl (by kernel_rfl) ?_
              first
                | refine E.storeM 0 hM rfl rfl rfl (by kernel_rfl) ?_ rfl ?_
                | refine E.storeM 1 hM rfl rfl rfl (by kernel_rfl) ?_ rfl ?_
                | refine E.storeM 2 hM rfl rfl rfl (by kernel_rfl) ?_ rfl ?_
                | refine E.storeM 3 hM rfl rfl rfl (by kernel_rfl) ?_ rfl ?_
                | refine E.storeM 4 hM rfl rfl rfl (by kernel_rfl) ?_ rfl ?_
              · exact (by first | rfl | exact (hM.sl 0 rfl).one | exact (hM.sl 1 rfl).one | exact (hM.sl 2 rfl).one | exact (hM.sl 3 rfl).one | exact (hM.sl 4 rfl).one | exact (hM.slF 0 rfl).one | exact (hM.slF 1 rfl).one | exact (hM.slF 2 rfl).one | exact (hM.slF 3 rfl).one | exact (hM.slF 4 rfl).one | exact RdL.one (by assumption) | exact RdF.one (by assumption) | assumption)
              intro w12 hM
              try dsimp only [List.nil_append, List.cons_append, List.set_cons_zero, List.set_cons_succ, repl] at hM
              have hS := hM.pick [0, 1] (by decide)
              refine H.back hS ?_
              refine H.done (by kernel_rfl) ?_
              refine X.outN <| X.next <| C.region <| E.mv rfl rfl <| ?_
              refine E.add rfl rfl (by omega) rfl ?_

              refine E.asg rfl rfl <| E.nil <| X.again2 (x + 1) _ (Sub.cons rfl <| Sub.nil _) rfl ⟨by rw [← Nat.add_assoc, tab_succ, lgf_at hx']; exact hM.pick [0, 1, 2, 3] (by decide), by omega⟩ (by omega)
            ·
              refine E.call rfl rfl (At_ret a b vd dk (x / 2) (y / 2) _ (hM.arg0 hr) hok (by omega) (by omega)) ?_
              rintro _ w3 ⟨rfl, x3⟩
              have hM := hM.ext x3
              try dsimp only [List.nil_append, List.cons_append, List.set_cons_zero, List.set_cons_succ, repl] at hM
              have hS := hM.pick [0, 1] (by decide)
              refine H.back hS ?_
              refine H.two 1 10 rfl rfl (by kernel_rfl) ?_ ?_
              ·
                refine E.load rfl Try.underlying22 rfl (by first | exact hM.bcell 0 rfl rfl | exact hM.bcell 1 rfl rfl | exact hM.bcell 2 rfl rfl | exact hM.bcell 3 rfl rfl | exact hM.bcell 4 rfl rfl) rfl ?_
                have hS := hM.pick [0, 1] (by decide)
                refine H.back hS ?_
                refine H.only 10 rfl (by kernel_rfl) ?_
                refine E.mk1M (enc := Value.bool) _ hM rfl Try.underlying22 elem_Tbool rfl rfl ?_
                intro v62 w14 hM
                try dsimp only [List.nil_append, List.cons_append, List.set_cons_zero, List.set_cons_succ, repl] at hM
                have hS := hM.pick [0, 1] (by decide)
                refine H.back hS ?_
                refine H.only 11 rfl (by kernel_rfl) ?_
                first
                  | refine E.appendM 0 hM rfl rfl rfl Try.underlying22 elem_Tbool (by first | exact hM.sl 0 rfl | exact hM.sl 1 rfl | exact hM.sl 2 rfl | exact hM.sl 3 rfl | exact hM.sl 4 rfl | exact hM.arg0 (by assumption) | exact hM.arg (by assumption) (by assumption) | assumption) ?_ ?_ ?_ rfl ?_
                  | refine E.appendM 1 hM rfl rfl rfl Try.underlying22 elem_Tbool (by first | exact hM.sl 0 rfl | exact hM.sl 1 rfl | exact hM.sl 2 rfl | exact hM.sl 3 rfl | exact hM.sl 4 rfl | exact hM.arg0 (by assumption) | exact hM.arg (by assumption) (by assumption) | assumption) ?_ ?_ ?_ rfl ?_
                  | refine E.appendM 2 hM rfl rfl rfl Try.underlying22 elem_Tbool (by first | exact hM.sl 0 rfl | exact hM.sl 1 rfl | exact hM.sl 2 rfl | exact hM.sl 3 rfl | exact hM.sl 4 rfl | exact hM.arg0 (by assumption) | exact hM.arg (by assumption) (by assumption) | assumption) ?_ ?_ ?_ rfl ?_
                  | refine E.appendM 3 hM rfl rfl rfl Try.underlying22 elem_Tbool (by first | exact hM.sl 0 rfl | exact hM.sl 1 rfl | exact hM.sl 2 rfl | exact hM.sl 3 rfl | exact hM.sl 4 rfl | exact hM.arg0 (by assumption) | exact hM.arg (by assumption) (by assumption) | assumption) ?_ ?_ ?_ rfl ?_
                  | refine E.appendM 4 hM rfl rfl rfl Try.underlying22 elem_Tbool (by first | exact hM.sl 0 rfl | exact hM.sl 1 rfl | exact hM.sl 2 rfl | exact hM.sl 3 rfl | exact hM.sl 4 rfl | exact hM.arg0 (by assumption) | exact hM.arg (by assumption) (by assumption) | assumption) ?_ ?_ ?_ rfl ?_
                · exact fun _ => rfl
                · exact (by first | omega | (simp only [List.length_replicate, List.length_append, List.length_set, List.length_cons, List.length_nil, List.length_map, List.length_range, List.length_take, List.length_drop, List.length_zipWith] at *; omega))
                · exact (by first | omega | (simp only [List.length_replicate, List.length_append, List.length_set, List.length_cons, List.length_nil, List.length_map, List.length_range, List.length_take, List.length_drop, List.length_zipWith] at *; omega))
                intro v63 w15 hM
                try dsimp only [List.nil_append, List.cons_append, List.set_cons_zero, List.set_cons_succ, repl] at hM
                have hS := hM.pick [0, 1] (by decide)
                refine H.back hS ?_
                refine H.takeV 12 rfl rfl (by kernel_rfl) (by kernel_rfl) (by kernel_rfl) hS (Y.fld (o := 2) (sz := 0) rfl Try.underlying24 rfl rfl (by kernel_rfl)) (fun w' hM => Y.fld (o := 2) (sz := 0) rfl Try.underlying24 rfl rfl (by kernel_rfl)) rfl ?_
                refine H.only 13 rfl (by kernel_rfl) ?_
                first
                  | refine E.storeM 0 hM rfl rfl rfl (by kernel_rfl) ?_ rfl ?_
                  | refine E.storeM 1 hM rfl rfl rfl (by kernel_rfl) ?_ rfl ?_
                  | refine E.storeM 2 hM rfl rfl rfl (by kernel_rfl) ?_ rfl ?_
                  | refine E.storeM 3 hM rfl rfl rfl (by kernel_rfl) ?_ rfl ?_
                  | refine E.storeM 4 hM rfl rfl rfl (by kernel_rfl) ?_ rfl ?_
                · exact (by first | rfl | exact (hM.sl 0 rfl).one | exact (hM.sl 1 rfl).one | exact (hM.sl 2 rfl).one | exact (hM.sl 3 rfl).one | exact (hM.sl 4 rfl).one | exact (hM.slF 0 rfl).one | exact (hM.slF 1 rfl).one | exact (hM.slF 2 rfl).one | exact (hM.slF 3 rfl).one | exact (hM.slF 4 rfl).one | exact RdL.one (by assumption) | exact RdF.one (by assumption) | assumption)
                intro w16 hM
                try dsimp only [List.nil_append, List.cons_append, List.set_cons_zero, List.set_cons_succ, repl] at hM
                have hS := hM.pick [0, 1] (by decide)
                refine H.back hS ?_
                refine H.done (by kernel_rfl) ?_
                refine X.outN <| X.next <| C.region <| E.mv rfl rfl <| ?_
                refine E.add rfl rfl (by omega) rfl ?_

                refine E.asg rfl rfl <| E.nil <| X.again2 (x + 1) _ (Sub.cons rfl <| Sub.nil _) rfl ⟨by rw [← Nat.add_assoc, tab_succ, lgf_at hx']; exact hM.pick [0, 1, 2, 3] (by decide), by omega⟩ (by omega)
              ·
                refine E.mk1M (enc := Value.bool) _ hM rfl Try.underlying22 elem_Tbool rfl rfl ?_
                intro v62 w17 hM
                try dsimp only [List.nil_append, List.cons_append, List.set_cons_zero, List.set_cons_succ, repl] at hM
                have hS := hM.pick [0, 1] (by decide)
                refine H.back hS ?_
                refine H.only 1 rfl (by kernel_rfl) ?_
                refine E.load rfl Try.underlying22 rfl (by first | exact hM.bcell 0 rfl rfl | exact hM.bcell 1 rfl rfl | exact hM.bcell 2 rfl rfl | exact hM.bcell 3 rfl rfl | exact hM.bcell 4 rfl rfl) rfl ?_
                have hS := hM.pick [0, 1] (by decide)
                refine H.back hS ?_
                refine H.only 11 rfl (by kernel_rfl) ?_
                first
                  | refine E.appendM 0 hM rfl rfl rfl Try.underlying22 elem_Tbool (by first | exact hM.sl 0 rfl | exact hM.sl 1 rfl | exact hM.sl 2 rfl | exact hM.sl 3 rfl | exact hM.sl 4 rfl | exact hM.arg0 (by assumption) | exact hM.arg (by assumption) (by assumption) | assumption) ?_ ?_ ?_ rfl ?_
                  | refine E.appendM 1 hM rfl rfl rfl Try.underlying22 elem_Tbool (by first | exact hM.sl 0 rfl | exact hM.sl 1 rfl | exact hM.sl 2 rfl | exact hM.sl 3 rfl | exact hM.sl 4 rfl | exact hM.arg0 (by assumption) | exact hM.arg (by assumption) (by assumption) | assumption) ?_ ?_ ?_ rfl ?_
                  | refine E.appendM 2 hM rfl rfl rfl Try.underlying22 elem_Tbool (by first | exact hM.sl 0 rfl | exact hM.sl 1 rfl | exact hM.sl 2 rfl | exact hM.sl 3 rfl | exact hM.sl 4 rfl | exact hM.arg0 (by assumption) | exact hM.arg (by assumption) (by assumption) | assumption) ?_ ?_ ?_ rfl ?_
                  | refine E.appendM 3 hM rfl rfl rfl Try.underlying22 elem_Tbool (by first | exact hM.sl 0 rfl | exact hM.sl 1 rfl | exact hM.sl 2 rfl | exact hM.sl 3 rfl | exact hM.sl 4 rfl | exact hM.arg0 (by assumption) | exact hM.arg (by assumption) (by assumption) | assumption) ?_ ?_ ?_ rfl ?_
                  | refine E.appendM 4 hM rfl rfl rfl Try.underlying22 elem_Tbool (by first | exact hM.sl 0 rfl | exact hM.sl 1 rfl | exact hM.sl 2 rfl | exact hM.sl 3 rfl | exact hM.sl 4 rfl | exact hM.arg0 (by assumption) | exact hM.arg (by assumption) (by assumption) | assumption) ?_ ?_ ?_ rfl ?_
                · exact fun _ => rfl
                · exact (by first | omega | (simp only [List.length_replicate, List.length_append, List.length_set, List.length_cons, List.length_nil, List.length_map, List.length_range, List.length_take, List.length_drop, List.length_zipWith] at *; omega))
                · exact (by first | omega | (simp only [List.length_replicate, List.length_append, List.length_set, List.length_cons, List.length_nil, List.length_map, List.length_range, List.length_take, List.length_drop, List.length_zipWith] at *; omega))
                intro v63 w18 hM
                try dsimp only [List.nil_append, List.cons_append, List.set_cons_zero, List.set_cons_succ, repl] at hM
                have hS := hM.pick [0, 1] (by decide)
                refine H.back hS ?_
                refine H.takeV 12 rfl rfl (by kernel_rfl) (by kernel_rfl) (by kernel_rfl) hS (Y.fld (o := 2) (sz := 0) rfl Try.underlying24 rfl rfl (by kernel_rfl)) (fun w' hM => Y.fld (o := 2) (sz := 0) rfl Try.underlying24 rfl rfl (by kernel_rfl)) rfl ?_
                refine H.only 13 rfl (by kernel_rfl) ?_
                first
                  | refine E.storeM 0 hM rfl rfl rfl (by kernel_rfl) ?_ rfl ?_
                  | refine E.storeM 1 hM rfl rfl rfl (by kernel_rfl) ?_ rfl ?_
                  | refine E.storeM 2 hM rfl rfl rfl (by kernel_rfl) ?_ rfl ?_
                  | refine E.storeM 3 hM rfl rfl rfl (by kernel_rfl) ?_ rfl ?_
                  | refine E.storeM 4 hM rfl rfl rfl (by kernel_rfl) ?_ rfl ?_
                · exact (by first | rfl | exact (hM.sl 0 rfl).one | exact (hM.sl 1 rfl).one | exact (hM.sl 2 rfl).one | exact (hM.sl 3 rfl).one | exact (hM.sl 4 rfl).one | exact (hM.slF 0 rfl).one | exact (hM.slF 1 rfl).one | exact (hM.slF 2 rfl).one | exact (hM.slF 3 rfl).one | exact (hM.slF 4 rfl).one | exact RdL.one (by assumption) | exact RdF.one (by assumption) | assumption)
                intro w19 hM
                try dsimp only [List.nil_append, List.cons_append, List.set_cons_zero, List.set_cons_succ, repl] at hM
                have hS := hM.pick [0, 1] (by decide)
                refine H.back hS ?_
                refine H.done (by kernel_rfl) ?_
                refine X.outN <| X.next <| C.region <| E.mv rfl rfl <| ?_
                refine E.add rfl rfl (by omega) rfl ?_

                refine E.asg rfl rfl <| E.nil <| X.again2 (x + 1) _ (Sub.cons rfl <| Sub.nil _) rfl ⟨by rw [← Nat.add_assoc, tab_succ, lgf_at hx']; exact hM.pick [0, 1, 2, 3] (by decide), by omega⟩ (by omega)
          ·
            refine C.exit <| X.exitT <| X.exitT <| X.outE <| X.outN <| X.next <| C.region <| E.mv rfl rfl <| ?_
            refine E.add rfl rfl (by omega) rfl ?_

            refine E.asg rfl rfl <| E.nil <| X.again2 (y + 1) vo (Sub.cons rfl <| Sub.nil _) rfl ⟨by rw [Nat.succ_mul y (2 * a)]; rw [show x = 2 * a from by omega] at hM; exact hM, by omega⟩ (by omega)
        ·
          obtain rfl : y = 2 * b := by omega
          refine C.exit <| X.exitT <| X.exitT <| X.outE <| X.next <| C.seq <| C.region <| ?_
          refine E.loadA rfl Try.underlying24 rfl (by kernel_rfl) (by first | exact hM.bat 0 rfl | exact hM.bat 1 rfl | exact hM.bat 2 rfl | exact hM.bat 3 rfl | exact hM.bat 4 rfl) rfl ?_
          first
            | refine E.storeAM 0 hM rfl rfl rfl (by kernel_rfl) rfl ?_ ?_
            | refine E.storeAM 1 hM rfl rfl rfl (by kernel_rfl) rfl ?_ ?_
            | refine E.storeAM 2 hM rfl rfl rfl (by kernel_rfl) rfl ?_ ?_
            | refine E.storeAM 3 hM rfl rfl rfl (by kernel_rfl) rfl ?_ ?_
            | refine E.storeAM 4 hM rfl rfl rfl (by kernel_rfl) rfl ?_ ?_
          · exact ones (by first | rfl | exact (hM.sl 0 rfl).one | exact (hM.sl 1 rfl).one | exact (hM.sl 2 rfl).one | exact (hM.sl 3 rfl).one | exact (hM.sl 4 rfl).one | exact (hM.slF 0 rfl).one | exact (hM.slF 1 rfl).one | exact (hM.slF 2 rfl).one | exact (hM.slF 3 rfl).one | exact (hM.slF 4 rfl).one | exact RdL.one (by assumption) | exact RdF.one (by assumption) | assumption) <| ones (by first | rfl | exact (hM.sl 0 rfl).one | exact (hM.sl 1 rfl).one | exact (hM.sl 2 rfl).one | exact (hM.sl 3 rfl).one | exact (hM.sl 4 rfl).one | exact (hM.slF 0 rfl).one | exact (hM.slF 1 rfl).one | exact (hM.slF 2 rfl).one | exact (hM.slF 3 rfl).one | exact (hM.slF 4 rfl).one | exact RdL.one (by assumption) | exact RdF.one (by assumption) | assumption) <| ones (by first | rfl | exact (hM.sl 0 rfl).one | exact (hM.sl 1 rfl).one | exact (hM.sl 2 rfl).one | exact (hM.sl 3 rfl).one | exact (hM.sl 4 rfl).one | exact (hM.slF 0 rfl).one | exact (hM.slF 1 rfl).one | exact (hM.slF 2 rfl).one | exact (hM.slF 3 rfl).one | exact (hM.slF 4 rfl).one | exact RdL.one (by assumption) | exact RdF.one (by assumption) | assumption) <| ones_nil
          intro w20 hM
          try dsimp only [List.nil_append, List.cons_append, List.set_cons_zero, List.set_cons_succ, repl] at hM
          refine E.asg rfl rfl <| E.nil <| X.next <| C.ret <| retAT rfl rfl rfl Try.underlying24 rfl (by first | exact hM.blk 0 rfl | exact hM.blk 1 rfl | exact hM.blk 2 rfl | exact hM.blk 3 rfl | exact hM.blk 4 rfl) (by kernel_rfl) ?_
          exact ⟨_, _, _, _, _, rfl, ⟨rfl, rfl, rfl, rfl⟩, by rw [Nat.mul_comm (2 * a) (2 * b)]; exact hM.pick [3] (by decide)⟩

end Go.Proofs.Ytnnmebpahickhaa
