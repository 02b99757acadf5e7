/- Texts of the claim, laid together: Tn. -/
import Derived.Test.YtnnmebpahickhaaComponentsSymmetricTopMg29
/- ref31: quarters, turned, At, Turn, Mirror, Enlarge. -/
namespace Go.Proofs.Ytnnmebpahickhaa
set_option linter.unusedSimpArgs false
set_option linter.unusedVariables false
open Go.RowKit Sym Uf

def quart (x : Int) : Int := (x.tmod 4 + 4) % 4
theorem quart_lt (x : Int) : 0 ≤ quart x ∧ quart x < 4 := by unfold quart; omega
theorem tmod4 (x : Int) : -4 < x.tmod 4 ∧ x.tmod 4 < 4 := ⟨by have := Int.lt_tmod_of_pos x (show (0 : Int) < 4 by decide); omega, Int.tmod_lt_of_pos x (by decide)⟩
def turnf (a b i : Nat) : Nat := (b - 1 - i % b) * a + i / b
theorem turnf_lt {a b i : Nat} (ha : 0 < a) (hb : 0 < b) (hi : i < a * b) : turnf a b i < a * b := by
  unfold turnf
  have := Nat.div_lt_of_lt_mul (show i < b * a by rw [Nat.mul_comm]; exact hi)
  exact row_lt this (by omega)
/-- what Turn and Mirror answer for a good bitmap -/
def TurnSp (a b : Nat) (dk : List Bool) (W1 H1 : Int) (l : List Bool) (e : Int) : Prop := ∃ a' b' : Nat, W1 = (a' : Int) ∧ H1 = (b' : Int) ∧ e = 0 ∧ okMat (a' : Int) (b' : Int) l.length ∧ Sy a b dk a' b' l
theorem quarters_ret (x : Int) (w : World) :
    Ret Try.prog 42 #[i64 x] w fun v w' => v = i64 (quart x) ∧ Ext w w' := by
  have hM := M.start w
  refine enter Try.func42 rfl (by kernel_rfl) Try.ntmps42 rfl ?_
  refine C.seq <| C.region <| E.asg rfl rfl <| E.nil <| X.next <| C.seq <| C.region <| E.mv rfl rfl <| ?_
  refine E.rem rfl rfl (by omega) rfl rfl ?_
  have h4 := tmod4 x
  refine E.add rfl rfl (by omega) rfl ?_
  refine E.rem (c := quart x) rfl rfl (by omega) (by unfold quart; exact Int.tmod_eq_emod_of_nonneg (by omega)) rfl ?_
  refine E.asg rfl rfl <| E.nil <| X.next <| C.ret <| ret1 rfl rfl ?_
  exact ⟨rfl, hM.toExt⟩

theorem turned_ret (a b i : Nat) (w : World) (ha : 0 < a) (hb : 0 < b) (ha' : a ≤ 4096) (hb' : b ≤ 4096) (hi : i < a * b) :
    Ret Try.prog 43 #[i64 a, i64 b, i64 i] w fun v w' => v = i64 (turnf a b i : Int) ∧ Ext w w' := by
  have hmod := Nat.mod_lt i hb
  have hdv := Nat.div_le_self i b
  have hab := Nat.mul_le_mul ha' hb'
  have hpr := Nat.mul_le_mul (show b - 1 - i % b ≤ 4096 by omega) ha'
  have hM := M.start w
  refine enter Try.func43 rfl (by kernel_rfl) Try.ntmps43 rfl ?_
  refine C.seq <| C.region <| E.asg rfl rfl <| E.nil <| X.next <| C.seq <| C.region <| E.mv rfl rfl <| E.mv rfl rfl <| ?_
  refine E.rem rfl rfl (by omega) (IntWalk.rem_in _ _ (by omega)) rfl ?_
  refine E.asg rfl rfl <| E.nil <| X.next <| C.seq <| C.region <| E.mv rfl rfl <| E.mv rfl rfl <| ?_
  refine E.quo rfl rfl (by omega) (IntWalk.i64_quo _ _ (by omega)) rfl ?_
  refine E.asg rfl rfl <| E.nil <| X.next <| C.seq <| C.region <| E.mv rfl rfl <| ?_
  refine E.subN (b := 1) rfl rfl (by first | omega | (simp only [List.length_replicate, List.length_append, List.length_set, List.length_cons, List.length_nil, List.length_map, List.length_range, List.length_take, List.length_drop, List.length_zipWith] at *; omega)) rfl ?_
  refine E.mv rfl rfl <| ?_
  refine E.subN (a := b - 1) (b := i % b) rfl rfl (by omega) rfl ?_
  refine E.mv rfl rfl <| ?_
  refine E.mulN (a := b - 1 - i % b) (b := a) rfl rfl (by omega) rfl ?_
  refine E.mv rfl rfl <| ?_
  refine E.addN (a := (b - 1 - i % b) * a) (b := i / b) rfl rfl (by omega) rfl ?_
  refine E.asg rfl rfl <| E.nil <| X.next <| C.ret <| ret1 rfl rfl ?_
  exact ⟨rfl, hM.toExt⟩

theorem At_ret (a b : Nat) (vd : Value) (dk : List Bool) (x y : Nat) (w : World) (hr : RdL Value.bool w vd dk) (hok : okMat (a : Int) (b : Int) dk.length) (hx : x < a) (hy : y < b) :
    Ret Try.prog 26 #[mat a b vd, i64 x, i64 y] w fun v w' => v = .bool (dk.getD (y * a + x) false) ∧ Ext w w' := by
  obtain ⟨a0, b0, ea, eb, hW, hH, hn, hn0⟩ := hok.nat
  obtain rfl : a = a0 := by omega
  obtain rfl : b = b0 := by omega
  have hlt : y * a + x < dk.length := by rw [hn]; exact row_lt hx hy
  have hM := M.start w
  refine enter Try.func26 rfl (by kernel_rfl) Try.ntmps26 rfl ?_
  refine C.seq <| C.region <| ?_
  refine E.boxM hM rfl rfl rfl ?_
  intro b3 w0 hM
  try dsimp only [List.nil_append, List.cons_append, List.set_cons_zero, List.set_cons_succ, repl] at hM
  refine E.asg rfl rfl <| E.nil <| X.next <| ?_

  refine C.cut0 [] rfl [(6, .bool (dk.getD (y * a + x) false))] (fun w' => M w (Nn) w' []) ?_ ?_
  ·
    refine C.region <| ?_
    refine E.loadA rfl Try.underlying24 rfl (by kernel_rfl) (by first | exact hM.bat 0 rfl | exact hM.bat 1 rfl | exact hM.bat 2 rfl | exact hM.bat 3 rfl | exact hM.bat 4 rfl | exact hM.bat 5 rfl | exact hM.bat 6 rfl) rfl ?_
    refine E.call rfl rfl (Valid_ret a b vd dk.length _ hr.shape) ?_
    rintro _ w1 ⟨rfl, x1⟩
    have hM := hM.ext x1
    rw [decide_eq_true hok]
    try dsimp only [List.nil_append, List.cons_append, List.set_cons_zero, List.set_cons_succ, repl] at hM
    refine E.mv rfl rfl <| ?_
    refine E.split 9 rfl (fun g9 => ?_) (fun g9 => ?_)
    ·
      try simp only [decide_eq_true_eq, decide_eq_false_iff_not, ne_eq, Decidable.not_not, Bool.not_eq_true', Bool.not_eq_false'] at g9
      refine E.on rfl rfl (E.mv rfl rfl ?_)
      refine E.on rfl rfl (E.bin rfl rfl rfl rfl ?_)
      refine E.pick rfl rfl rfl <| E.mv rfl rfl <| ?_
      refine E.split 13 rfl (fun g13 => ?_) (fun g13 => ?_)
      ·
        try simp only [decide_eq_true_eq, decide_eq_false_iff_not, ne_eq, Decidable.not_not, Bool.not_eq_true', Bool.not_eq_false'] at g13
        refine E.on rfl rfl (E.mv rfl rfl ?_)
        refine E.on rfl rfl (E.fld (o := 0) (sz := 0) rfl Try.underlying24 rfl rfl (by kernel_rfl) rfl ?_)
        refine E.on rfl rfl (E.load rfl Try.underlying3 rfl (by first | exact hM.bcell 0 rfl rfl | exact hM.bcell 1 rfl rfl | exact hM.bcell 2 rfl rfl | exact hM.bcell 3 rfl rfl | exact hM.bcell 4 rfl rfl | exact hM.bcell 5 rfl rfl | exact hM.bcell 6 rfl rfl) rfl ?_)
        refine E.on rfl rfl (E.bin rfl rfl rfl rfl ?_)
        refine E.pick rfl rfl rfl <| E.mv rfl rfl <| ?_
        refine E.split 19 rfl (fun g19 => ?_) (fun g19 => ?_)
        ·
          try simp only [decide_eq_true_eq, decide_eq_false_iff_not, ne_eq, Decidable.not_not, Bool.not_eq_true', Bool.not_eq_false'] at g19
          refine E.on rfl rfl (E.mv rfl rfl ?_)
          refine E.on rfl rfl (E.bin rfl rfl rfl rfl ?_)
          refine E.pick rfl rfl rfl <| E.mv rfl rfl <| ?_
          refine E.split 23 rfl (fun g23 => ?_) (fun g23 => ?_)
          ·
            try simp only [decide_eq_true_eq, decide_eq_false_iff_not, ne_eq, Decidable.not_not, Bool.not_eq_true', Bool.not_eq_false'] at g23
            refine E.on rfl rfl (E.mv rfl rfl ?_)
            refine E.on rfl rfl (E.fld (o := 1) (sz := 0) rfl Try.underlying24 rfl rfl (by kernel_rfl) rfl ?_)
            refine E.on rfl rfl (E.load rfl Try.underlying3 rfl (by first | exact hM.bcell 0 rfl rfl | exact hM.bcell 1 rfl rfl | exact hM.bcell 2 rfl rfl | exact hM.bcell 3 rfl rfl | exact hM.bcell 4 rfl rfl | exact hM.bcell 5 rfl rfl | exact hM.bcell 6 rfl rfl) rfl ?_)
            refine E.on rfl rfl (E.bin rfl rfl rfl rfl ?_)
            refine E.pick rfl rfl rfl <| E.mv rfl rfl <| ?_
            refine E.split 29 rfl (fun g29 => ?_) (fun g29 => ?_)
            ·
              try simp only [decide_eq_true_eq, decide_eq_false_iff_not, ne_eq, Decidable.not_not, Bool.not_eq_true', Bool.not_eq_false'] at g29
              refine E.on rfl rfl (E.fld (o := 2) (sz := 0) rfl Try.underlying24 rfl rfl (by kernel_rfl) rfl ?_)
              refine E.on rfl rfl (E.load rfl Try.underlying22 rfl (by first | exact hM.bcell 0 rfl rfl | exact hM.bcell 1 rfl rfl | exact hM.bcell 2 rfl rfl | exact hM.bcell 3 rfl rfl | exact hM.bcell 4 rfl rfl | exact hM.bcell 5 rfl rfl | exact hM.bcell 6 rfl rfl) rfl ?_)
              refine E.on rfl rfl (E.mv rfl rfl ?_)
              refine E.on rfl rfl (E.fld (o := 0) (sz := 0) rfl Try.underlying24 rfl rfl (by kernel_rfl) rfl ?_)
              refine E.on rfl rfl (E.load rfl Try.underlying3 rfl (by first | exact hM.bcell 0 rfl rfl | exact hM.bcell 1 rfl rfl | exact hM.bcell 2 rfl rfl | exact hM.bcell 3 rfl rfl | exact hM.bcell 4 rfl rfl | exact hM.bcell 5 rfl rfl | exact hM.bcell 6 rfl rfl) rfl ?_)
              refine E.on rfl rfl (E.mulN rfl rfl (by first | omega | (simp only [List.length_replicate, List.length_append, List.length_set, List.length_cons, List.length_nil, List.length_map, List.length_range, List.length_take, List.length_drop, List.length_zipWith] at *; omega)) rfl ?_)
              refine E.on rfl rfl (E.mv rfl rfl ?_)
              refine E.on rfl rfl (E.addN rfl rfl (by first | omega | (simp only [List.length_replicate, List.length_append, List.length_set, List.length_cons, List.length_nil, List.length_map, List.length_range, List.length_take, List.length_drop, List.length_zipWith] at *; omega)) rfl ?_)
              refine E.on rfl rfl (E.idx1 (k := _) rfl rfl (by first | exact hM.sl 0 rfl | exact hM.sl 1 rfl | exact hM.sl 2 rfl | exact hM.sl 3 rfl | exact hM.sl 4 rfl | exact hM.sl 5 rfl | exact hM.sl 6 rfl | exact hM.arg0 (by assumption) | exact hM.arg (by assumption) (by assumption) | assumption) rfl (by first | omega | (simp only [List.length_replicate, List.length_append, List.length_set, List.length_cons, List.length_nil, List.length_map, List.length_range, List.length_take, List.length_drop, List.length_zipWith] at *; omega)) Try.underlying22 (by kernel_rfl) rfl ?_)
              refine E.on rfl rfl (E.load rfl Try.underlying4 rfl (by first | exact (hM.sl 0 rfl).cellA rfl (by first | omega | (simp only [List.length_replicate, List.length_append, List.length_set, List.length_cons, List.length_nil, List.length_map, List.length_range, List.length_take, List.length_drop, List.length_zipWith] at *; omega)) | exact (hM.sl 1 rfl).cellA rfl (by first | omega | (simp only [List.length_replicate, List.length_append, List.length_set, List.length_cons, List.length_nil, List.length_map, List.length_range, List.length_take, List.length_drop, List.length_zipWith] at *; omega)) | exact (hM.sl 2 rfl).cellA rfl (by first | omega | (simp only [List.length_replicate, List.length_append, List.length_set, List.length_cons, List.length_nil, List.length_map, List.length_range, List.length_take, List.length_drop, List.length_zipWith] at *; omega)) | exact (hM.sl 3 rfl).cellA rfl (by first | omega | (simp only [List.length_replicate, List.length_append, List.length_set, List.length_cons, List.length_nil, List.length_map, List.length_range, List.length_take, List.length_drop, List.length_zipWith] at *; omega)) | exact (hM.sl 4 rfl).cellA rfl (by first | omega | (simp only [List.length_replicate, List.length_append, List.length_set, List.length_cons, List.length_nil, List.length_map, List.length_range, List.length_take, List.length_drop, List.length_zipWith] at *; omega)) | exact (hM.sl 5 rfl).cellA rfl (by first | omega | (simp only [List.length_replicate, List.length_append, List.length_set, List.length_cons, List.length_nil, List.length_map, List.length_range, List.length_take, List.length_drop, List.length_zipWith] at *; omega)) | exact (hM.sl 6 rfl).cellA rfl (by first | omega | (simp only [List.length_replicate, List.length_append, List.length_set, List.length_cons, List.length_nil, List.length_map, List.length_range, List.length_take, List.length_drop, List.length_zipWith] at *; omega)) | exact (hM.arg0 (by assumption)).cellA rfl (by first | omega | (simp only [List.length_replicate, List.length_append, List.length_set, List.length_cons, List.length_nil, List.length_map, List.length_range, List.length_take, List.length_drop, List.length_zipWith] at *; omega)) | exact (hM.arg (by assumption) (by assumption)).cellA rfl (by first | omega | (simp only [List.length_replicate, List.length_append, List.length_set, List.length_cons, List.length_nil, List.length_map, List.length_range, List.length_take, List.length_drop, List.length_zipWith] at *; omega))) rfl ?_)
              rw [show dk[y * a + x] = dk.getD (y * a + x) false from by rw [List.getD_eq_getElem?_getD, List.getElem?_eq_getElem hlt]; rfl]

              refine E.pick rfl rfl rfl <| E.asg rfl rfl <| E.nil <| X.join0  (Sub.cons rfl <| Sub.nil _) rfl (hM.pick [] (by decide))
            ·
              try simp only [decide_eq_true_eq, decide_eq_false_iff_not, ne_eq, Decidable.not_not, Bool.not_eq_true', Bool.not_eq_false'] at g29
              omega
          ·
            try simp only [decide_eq_true_eq, decide_eq_false_iff_not, ne_eq, Decidable.not_not, Bool.not_eq_true', Bool.not_eq_false'] at g23
            omega
        ·
          try simp only [decide_eq_true_eq, decide_eq_false_iff_not, ne_eq, Decidable.not_not, Bool.not_eq_true', Bool.not_eq_false'] at g19
          omega
      ·
        try simp only [decide_eq_true_eq, decide_eq_false_iff_not, ne_eq, Decidable.not_not, Bool.not_eq_true', Bool.not_eq_false'] at g13
        omega
    ·
      try simp only [decide_eq_true_eq, decide_eq_false_iff_not, ne_eq, Decidable.not_not, Bool.not_eq_true', Bool.not_eq_false'] at g9
      cases g9
  rintro  w2 hM
  refine C.ret <| ret1 rfl rfl ?_
  exact ⟨rfl, hM.toExt⟩

def mirf (a : Nat) (dk : List Bool) (i : Nat) : Bool := dk.getD (i / a * a + (a - 1 - i % a)) false
theorem mir_sy {a b : Nat} {dk : List Bool} (ha : 0 < a) (hn : dk.length = a * b) : Sy a b dk a b (tab dk.length (mirf a dk)) := by
  refine co_mirror.sy ha ha hn (by rw [tab_len]; exact hn) (by rw [tab_len]) fun i hi => ?_
  rw [tab_len] at hi
  have hm := Nat.mod_lt i ha
  have hlt : i / a * a + (a - 1 - i % a) < dk.length := by rw [hn]; exact row_lt (by omega) (Nat.div_lt_of_lt_mul (by omega))
  rw [tab_get hi, mirf, List.getD_eq_getElem?_getD, List.getElem?_eq_getElem hlt]; rfl
set_option maxHeartbeats 1000000 in
theorem Mirror_ret (a b : Nat) (vd : Value) (dk : List Bool) (w : World) (hr : RdL Value.bool w vd dk) (hok : okMat (a : Int) (b : Int) dk.length) :
    Ret Try.prog 29 #[mat a b vd] w fun v w' => MatAns (TurnSp a b dk) v w w' := by
  obtain ⟨a0, b0, ea, eb, hW, hH, hn, hn0⟩ := hok.nat
  obtain rfl : a = a0 := by omega
  obtain rfl : b = b0 := by omega
  have hM := M.start w
  refine enter Try.func29 rfl (by kernel_rfl) Try.ntmps29 rfl ?_
  refine C.seq <| C.region <| ?_
  refine E.boxM hM rfl rfl rfl ?_
  intro b1 w0 hM
  try dsimp only [List.nil_append, List.cons_append, List.set_cons_zero, List.set_cons_succ, repl] at hM
  refine E.allocM (z := .agg #[.int .i64 0, .int .i64 0, .slice none 0 0]) (cs := [.int .i64 0, .int .i64 0, .slice none 0 0]) hM (by kernel_rfl) rfl rfl ?_
  intro b2 w1 hM
  try dsimp only [List.nil_append, List.cons_append, List.set_cons_zero, List.set_cons_succ, repl] at hM
  refine E.asg rfl rfl <| E.nil <| X.next <| C.seq <| C.seq <| C.region <| ?_
  refine E.loadA rfl Try.underlying24 rfl (by kernel_rfl) (by first | exact hM.bat 0 rfl | exact hM.bat 1 rfl | exact hM.bat 2 rfl | exact hM.bat 3 rfl | exact hM.bat 4 rfl | exact hM.bat 5 rfl | exact hM.bat 6 rfl) rfl ?_
  refine E.call rfl rfl (Valid_ret a b vd dk.length _ hr.shape) ?_
  rintro _ w1 ⟨rfl, x1⟩
  have hM := hM.ext x1
  rw [decide_eq_true hok]
  try dsimp only [List.nil_append, List.cons_append, List.set_cons_zero, List.set_cons_succ, repl] at hM
  refine E.not rfl rfl <| E.nil <| X.next <| ?_
  refine C.cond rfl (fun hC0 => ?_) (fun hC0 => ?_)
  ·
    cases hC0
  ·
    refine C.skip <| X.next <| C.seq <| C.region <| ?_
    refine E.fld (o := 0) (sz := 0) rfl Try.underlying24 rfl rfl (by kernel_rfl) rfl ?_
    refine E.load rfl Try.underlying3 rfl (by first | exact hM.bcell 0 rfl rfl | exact hM.bcell 1 rfl rfl | exact hM.bcell 2 rfl rfl | exact hM.bcell 3 rfl rfl | exact hM.bcell 4 rfl rfl | exact hM.bcell 5 rfl rfl | exact hM.bcell 6 rfl rfl) rfl ?_
    refine E.fld (o := 1) (sz := 0) rfl Try.underlying24 rfl rfl (by kernel_rfl) rfl ?_
    refine E.load rfl Try.underlying3 rfl (by first | exact hM.bcell 0 rfl rfl | exact hM.bcell 1 rfl rfl | exact hM.bcell 2 rfl rfl | exact hM.bcell 3 rfl rfl | exact hM.bcell 4 rfl rfl | exact hM.bcell 5 rfl rfl | exact hM.bcell 6 rfl rfl) rfl ?_
    refine E.buildC (cs := [_, _, _]) [.int .i64 0, .int .i64 0, .slice none 0 0] [0, 1] rfl rfl (by kernel_rfl) rfl ?_
    refine E.allocM (z := .agg #[.int .i64 0, .int .i64 0, .slice none 0 0]) (cs := [.int .i64 0, .int .i64 0, .slice none 0 0]) hM (by kernel_rfl) rfl rfl ?_
    intro b4 w3 hM
    try dsimp only [List.nil_append, List.cons_append, List.set_cons_zero, List.set_cons_succ, repl] at hM
    first
      | refine E.storeAM 0 hM rfl rfl rfl (by kernel_rfl) rfl ?_ ?_
      | refine E.storeAM 1 hM rfl rfl rfl (by kernel_rfl) rfl ?_ ?_
      | refine E.storeAM 2 hM rfl rfl rfl (by kernel_rfl) rfl ?_ ?_
      | refine E.storeAM 3 hM rfl rfl rfl (by kernel_rfl) rfl ?_ ?_
      | refine E.storeAM 4 hM rfl rfl rfl (by kernel_rfl) rfl ?_ ?_
      | refine E.storeAM 5 hM rfl rfl rfl (by kernel_rfl) rfl ?_ ?_
      | refine E.storeAM 6 hM rfl rfl rfl (by kernel_rfl) rfl ?_ ?_
    · exact ones (by first | rfl | exact (hM.sl 0 rfl).one | exact (hM.sl 1 rfl).one | exact (hM.sl 2 rfl).one | exact (hM.sl 3 rfl).one | exact (hM.sl 4 rfl).one | exact (hM.sl 5 rfl).one | exact (hM.sl 6 rfl).one | exact (hM.slF 0 rfl).one | exact (hM.slF 1 rfl).one | exact (hM.slF 2 rfl).one | exact (hM.slF 3 rfl).one | exact (hM.slF 4 rfl).one | exact (hM.slF 5 rfl).one | exact (hM.slF 6 rfl).one | exact RdL.one (by assumption) | exact RdF.one (by assumption) | assumption) <| ones (by first | rfl | exact (hM.sl 0 rfl).one | exact (hM.sl 1 rfl).one | exact (hM.sl 2 rfl).one | exact (hM.sl 3 rfl).one | exact (hM.sl 4 rfl).one | exact (hM.sl 5 rfl).one | exact (hM.sl 6 rfl).one | exact (hM.slF 0 rfl).one | exact (hM.slF 1 rfl).one | exact (hM.slF 2 rfl).one | exact (hM.slF 3 rfl).one | exact (hM.slF 4 rfl).one | exact (hM.slF 5 rfl).one | exact (hM.slF 6 rfl).one | exact RdL.one (by assumption) | exact RdF.one (by assumption) | assumption) <| ones (by first | rfl | exact (hM.sl 0 rfl).one | exact (hM.sl 1 rfl).one | exact (hM.sl 2 rfl).one | exact (hM.sl 3 rfl).one | exact (hM.sl 4 rfl).one | exact (hM.sl 5 rfl).one | exact (hM.sl 6 rfl).one | exact (hM.slF 0 rfl).one | exact (hM.slF 1 rfl).one | exact (hM.slF 2 rfl).one | exact (hM.slF 3 rfl).one | exact (hM.slF 4 rfl).one | exact (hM.slF 5 rfl).one | exact (hM.slF 6 rfl).one | exact RdL.one (by assumption) | exact RdF.one (by assumption) | assumption) <| ones_nil
    intro w4 hM
    try dsimp only [List.nil_append, List.cons_append, List.set_cons_zero, List.set_cons_succ, repl] at hM
    refine E.nil <| X.next <| C.seq <| C.seq <| C.region <| E.asg rfl rfl <| E.nil <| X.next <| C.block <| ?_
    have hM := hM.nil Value.bool 4
    try dsimp only [List.nil_append, List.cons_append] at hM

    refine C.loop2 [(1, _), (2, _), (4, _)] rfl (fun (i : Nat) (vo : Value) => [(5, i64 i)]) (fun (i : Nat) (vo : Value) w' => M w (Nn) w' [Rg.blk b1 24 [i64 a, i64 b, vd], Rg.blk b2 24 [.int .i64 0, .int .i64 0, .slice none 0 0], Rg.blk b4 24 [i64 a, i64 b, vo], Rg.sl Value.bool 4 vo (tab i (mirf a dk))] ∧ i ≤ dk.length) (fun (i : Nat) (vo : Value) => dk.length - i) 0 nilS ?_ ?_ ?_
    · exact Sub.cons rfl <| Sub.nil _
    · exact ⟨hM, Nat.zero_le _⟩
    rintro i vo w5 ⟨hM, hi⟩
    refine C.seq <| C.seq <| C.region <| E.mv rfl rfl <| ?_
    refine E.fld (o := 2) (sz := 0) rfl Try.underlying24 rfl rfl (by kernel_rfl) rfl ?_
    refine E.load rfl Try.underlying22 rfl (by first | exact hM.bcell 0 rfl rfl | exact hM.bcell 1 rfl rfl | exact hM.bcell 2 rfl rfl | exact hM.bcell 3 rfl rfl | exact hM.bcell 4 rfl rfl | exact hM.bcell 5 rfl rfl | exact hM.bcell 6 rfl rfl) rfl ?_
    refine E.lenv rfl (Rd.shape (by first | exact hM.sl 0 rfl | exact hM.sl 1 rfl | exact hM.sl 2 rfl | exact hM.sl 3 rfl | exact hM.sl 4 rfl | exact hM.sl 5 rfl | exact hM.sl 6 rfl | exact hM.arg0 (by assumption) | exact hM.arg (by assumption) (by assumption) | assumption)) Try.underlying22 rfl ?_
    refine E.bin rfl rfl rfl rfl <| E.nil <| X.next <| ?_
    refine C.cond' rfl (fun hC1 => ?_) (fun hC1 => ?_)
    ·
      have hi' : i < dk.length := by omega
      have hmod := Nat.mod_lt i (show 0 < a by omega)
      have hdv : i / a < b := Nat.div_lt_of_lt_mul (by omega)
      have htl := tab_len i (mirf a dk)
      refine C.skip <| X.next <| C.seq <| C.block <| C.heldM hM [0, 1] (by decide) (by kernel_rfl) fun wh6 hM hS => ?_
      refine H.takeV 0 rfl rfl (by kernel_rfl) (by kernel_rfl) (by kernel_rfl) hS (Y.fld (o := 2) (sz := 0) rfl Try.underlying24 rfl rfl (by kernel_rfl)) (fun w' hM => Y.fld (o := 2) (sz := 0) rfl Try.underlying24 rfl rfl (by kernel_rfl)) rfl ?_
      refine H.takeV 3 rfl rfl (by kernel_rfl) (by kernel_rfl) (by kernel_rfl) hS (Y.fld (o := 0) (sz := 0) rfl Try.underlying24 rfl rfl (by kernel_rfl)) (fun w' hM => Y.fld (o := 0) (sz := 0) rfl Try.underlying24 rfl rfl (by kernel_rfl)) rfl ?_
      refine H.take 6 rfl rfl (by kernel_rfl) (by kernel_rfl) (by kernel_rfl) hS (fun w' hM => Y.mv rfl) rfl ?_
      refine H.takeV 7 rfl rfl (by kernel_rfl) (by kernel_rfl) (by kernel_rfl) hS (Y.fld (o := 0) (sz := 0) rfl Try.underlying24 rfl rfl (by kernel_rfl)) (fun w' hM => Y.fld (o := 0) (sz := 0) rfl Try.underlying24 rfl rfl (by kernel_rfl)) rfl ?_
      refine H.take 11 rfl rfl (by kernel_rfl) (by kernel_rfl) (by kernel_rfl) hS (fun w' hM => Y.mv rfl) rfl ?_
      refine H.takeV 12 rfl rfl (by kernel_rfl) (by kernel_rfl) (by kernel_rfl) hS (Y.fld (o := 0) (sz := 0) rfl Try.underlying24 rfl rfl (by kernel_rfl)) (fun w' hM => Y.fld (o := 0) (sz := 0) rfl Try.underlying24 rfl rfl (by kernel_rfl)) rfl ?_
      refine H.takeV 2 rfl rfl (by kernel_rfl) (by kernel_rfl) (by kernel_rfl) hS (Y.loadA rfl Try.underlying24 rfl (by kernel_rfl) (by first | exact hS.bat 0 rfl | exact hS.bat 1 rfl | exact hS.bat 2 rfl | exact hS.bat 3 rfl | exact hS.bat 4 rfl | exact hS.bat 5 rfl | exact hS.bat 6 rfl)) (fun w' hM => Y.loadA rfl Try.underlying24 rfl (by kernel_rfl) (by first | exact hM.bat 0 rfl | exact hM.bat 1 rfl | exact hM.bat 2 rfl | exact hM.bat 3 rfl | exact hM.bat 4 rfl | exact hM.bat 5 rfl | exact hM.bat 6 rfl)) rfl ?_
      refine H.takeV 4 rfl rfl (by kernel_rfl) (by kernel_rfl) (by kernel_rfl) hS (Y.load rfl Try.underlying3 rfl (by first | exact hS.bcell 0 rfl rfl | exact hS.bcell 1 rfl rfl | exact hS.bcell 2 rfl rfl | exact hS.bcell 3 rfl rfl | exact hS.bcell 4 rfl rfl | exact hS.bcell 5 rfl rfl | exact hS.bcell 6 rfl rfl)) (fun w' hM => Y.load rfl Try.underlying3 rfl (by first | exact hM.bcell 0 rfl rfl | exact hM.bcell 1 rfl rfl | exact hM.bcell 2 rfl rfl | exact hM.bcell 3 rfl rfl | exact hM.bcell 4 rfl rfl | exact hM.bcell 5 rfl rfl | exact hM.bcell 6 rfl rfl)) rfl ?_
      refine H.take 5 rfl rfl (by kernel_rfl) (by kernel_rfl) (by kernel_rfl) hS (fun w' hM => Y.subN (a := a) (b := 1) rfl rfl (by omega)) rfl ?_
      refine H.takeV 8 rfl rfl (by kernel_rfl) (by kernel_rfl) (by kernel_rfl) hS (Y.load rfl Try.underlying3 rfl (by first | exact hS.bcell 0 rfl rfl | exact hS.bcell 1 rfl rfl | exact hS.bcell 2 rfl rfl | exact hS.bcell 3 rfl rfl | exact hS.bcell 4 rfl rfl | exact hS.bcell 5 rfl rfl | exact hS.bcell 6 rfl rfl)) (fun w' hM => Y.load rfl Try.underlying3 rfl (by first | exact hM.bcell 0 rfl rfl | exact hM.bcell 1 rfl rfl | exact hM.bcell 2 rfl rfl | exact hM.bcell 3 rfl rfl | exact hM.bcell 4 rfl rfl | exact hM.bcell 5 rfl rfl | exact hM.bcell 6 rfl rfl)) rfl ?_
      refine H.take 9 rfl rfl (by kernel_rfl) (by kernel_rfl) (by kernel_rfl) hS (fun w' hM => Y.rem rfl rfl (by omega) (IntWalk.rem_in _ _ (by omega))) rfl ?_
      refine H.take 10 rfl rfl (by kernel_rfl) (by kernel_rfl) (by kernel_rfl) hS (fun w' hM => Y.subN (a := a - 1) (b := i % a) rfl rfl (by omega)) rfl ?_
      refine H.takeV 13 rfl rfl (by kernel_rfl) (by kernel_rfl) (by kernel_rfl) hS (Y.load rfl Try.underlying3 rfl (by first | exact hS.bcell 0 rfl rfl | exact hS.bcell 1 rfl rfl | exact hS.bcell 2 rfl rfl | exact hS.bcell 3 rfl rfl | exact hS.bcell 4 rfl rfl | exact hS.bcell 5 rfl rfl | exact hS.bcell 6 rfl rfl)) (fun w' hM => Y.load rfl Try.underlying3 rfl (by first | exact hM.bcell 0 rfl rfl | exact hM.bcell 1 rfl rfl | exact hM.bcell 2 rfl rfl | exact hM.bcell 3 rfl rfl | exact hM.bcell 4 rfl rfl | exact hM.bcell 5 rfl rfl | exact hM.bcell 6 rfl rfl)) rfl ?_
      refine H.take 14 rfl rfl (by kernel_rfl) (by kernel_rfl) (by kernel_rfl) hS (fun w' hM => Y.quo rfl rfl (by omega) (IntWalk.i64_quo _ _ (by omega))) rfl ?_
      refine H.two 1 15 rfl rfl (by kernel_rfl) ?_ ?_
      ·
        refine E.load rfl Try.underlying22 rfl (by first | exact hM.bcell 0 rfl rfl | exact hM.bcell 1 rfl rfl | exact hM.bcell 2 rfl rfl | exact hM.bcell 3 rfl rfl | exact hM.bcell 4 rfl rfl | exact hM.bcell 5 rfl rfl | exact hM.bcell 6 rfl rfl) rfl ?_
        have hS := hM.pick [0, 1] (by decide)
        refine H.back hS ?_
        refine H.only 15 rfl (by kernel_rfl) ?_
        refine E.call rfl rfl (At_ret a b vd dk (a - 1 - i % a) (i / a) _ (hM.arg0 hr) hok (by omega) hdv) ?_
        rintro _ w2 ⟨rfl, x2⟩
        have hM := hM.ext x2
        try dsimp only [List.nil_append, List.cons_append, List.set_cons_zero, List.set_cons_succ, repl] at hM
        have hS := hM.pick [0, 1] (by decide)
        refine H.back hS ?_
        refine H.only 16 rfl (by kernel_rfl) ?_
        refine E.mk1M (enc := Value.bool) _ hM rfl Try.underlying22 elem_Tbool rfl rfl ?_
        intro v38 w8 hM
        try dsimp only [List.nil_append, List.cons_append, List.set_cons_zero, List.set_cons_succ, repl] at hM
        have hS := hM.pick [0, 1] (by decide)
        refine H.back hS ?_
        refine H.only 17 rfl (by kernel_rfl) ?_
        first
          | refine E.appendM 0 hM rfl rfl rfl Try.underlying22 elem_Tbool (by first | exact hM.sl 0 rfl | exact hM.sl 1 rfl | exact hM.sl 2 rfl | exact hM.sl 3 rfl | exact hM.sl 4 rfl | exact hM.sl 5 rfl | exact hM.sl 6 rfl | exact hM.arg0 (by assumption) | exact hM.arg (by assumption) (by assumption) | assumption) ?_ ?_ ?_ rfl ?_
          | refine E.appendM 1 hM rfl rfl rfl Try.underlying22 elem_Tbool (by first | exact hM.sl 0 rfl | exact hM.sl 1 rfl | exact hM.sl 2 rfl | exact hM.sl 3 rfl | exact hM.sl 4 rfl | exact hM.sl 5 rfl | exact hM.sl 6 rfl | exact hM.arg0 (by assumption) | exact hM.arg (by assumption) (by assumption) | assumption) ?_ ?_ ?_ rfl ?_
          | refine E.appendM 2 hM rfl rfl rfl Try.underlying22 elem_Tbool (by first | exact hM.sl 0 rfl | exact hM.sl 1 rfl | exact hM.sl 2 rfl | exact hM.sl 3 rfl | exact hM.sl 4 rfl | exact hM.sl 5 rfl | exact hM.sl 6 rfl | exact hM.arg0 (by assumption) | exact hM.arg (by assumption) (by assumption) | assumption) ?_ ?_ ?_ rfl ?_
          | refine E.appendM 3 hM rfl rfl rfl Try.underlying22 elem_Tbool (by first | exact hM.sl 0 rfl | exact hM.sl 1 rfl | exact hM.sl 2 rfl | exact hM.sl 3 rfl | exact hM.sl 4 rfl | exact hM.sl 5 rfl | exact hM.sl 6 rfl | exact hM.arg0 (by assumption) | exact hM.arg (by assumption) (by assumption) | assumption) ?_ ?_ ?_ rfl ?_
          | refine E.appendM 4 hM rfl rfl rfl Try.underlying22 elem_Tbool (by first | exact hM.sl 0 rfl | exact hM.sl 1 rfl | exact hM.sl 2 rfl | exact hM.sl 3 rfl | exact hM.sl 4 rfl | exact hM.sl 5 rfl | exact hM.sl 6 rfl | exact hM.arg0 (by assumption) | exact hM.arg (by assumption) (by assumption) | assumption) ?_ ?_ ?_ rfl ?_
          | refine E.appendM 5 hM rfl rfl rfl Try.underlying22 elem_Tbool (by first | exact hM.sl 0 rfl | exact hM.sl 1 rfl | exact hM.sl 2 rfl | exact hM.sl 3 rfl | exact hM.sl 4 rfl | exact hM.sl 5 rfl | exact hM.sl 6 rfl | exact hM.arg0 (by assumption) | exact hM.arg (by assumption) (by assumption) | assumption) ?_ ?_ ?_ rfl ?_
          | refine E.appendM 6 hM rfl rfl rfl Try.underlying22 elem_Tbool (by first | exact hM.sl 0 rfl | exact hM.sl 1 rfl | exact hM.sl 2 rfl | exact hM.sl 3 rfl | exact hM.sl 4 rfl | exact hM.sl 5 rfl | exact hM.sl 6 rfl | exact hM.arg0 (by assumption) | exact hM.arg (by assumption) (by assumption) | assumption) ?_ ?_ ?_ rfl ?_
        · exact fun _ => rfl
        · exact (by first | omega | (simp only [List.length_replicate, List.length_append, List.length_set, List.length_cons, List.length_nil, List.length_map, List.length_range, List.length_take, List.length_drop, List.length_zipWith] at *; omega))
        · exact (by first | omega | (simp only [List.length_replicate, List.length_append, List.length_set, List.length_cons, List.length_nil, List.length_map, List.length_range, List.length_take, List.length_drop, List.length_zipWith] at *; omega))
        intro v39 w9 hM
        try dsimp only [List.nil_append, List.cons_append, List.set_cons_zero, List.set_cons_succ, repl] at hM
        have hS := hM.pick [0, 1] (by decide)
        refine H.back hS ?_
        refine H.takeV 18 rfl rfl (by kernel_rfl) (by kernel_rfl) (by kernel_rfl) hS (Y.fld (o := 2) (sz := 0) rfl Try.underlying24 rfl rfl (by kernel_rfl)) (fun w' hM => Y.fld (o := 2) (sz := 0) rfl Try.underlying24 rfl rfl (by kernel_rfl)) rfl ?_
        refine H.only 19 rfl (by kernel_rfl) ?_
        first
          | refine E.storeM 0 hM rfl rfl rfl (by kernel_rfl) ?_ rfl ?_
          | refine E.storeM 1 hM rfl rfl rfl (by kernel_rfl) ?_ rfl ?_
          | refine E.storeM 2 hM rfl rfl rfl (by kernel_rfl) ?_ rfl ?_
          | refine E.storeM 3 hM rfl rfl rfl (by kernel_rfl) ?_ rfl ?_
          | refine E.storeM 4 hM rfl rfl rfl (by kernel_rfl) ?_ rfl ?_
          | refine E.storeM 5 hM rfl rfl rfl (by kernel_rfl) ?_ rfl ?_
          | refine E.storeM 6 hM rfl rfl rfl (by kernel_rfl) ?_ rfl ?_
        · exact (by first | rfl | exact (hM.sl 0 rfl).one | exact (hM.sl 1 rfl).one | exact (hM.sl 2 rfl).one | exact (hM.sl 3 rfl).one | exact (hM.sl 4 rfl).one | exact (hM.sl 5 rfl).one | exact (hM.sl 6 rfl).one | exact (hM.slF 0 rfl).one | exact (hM.slF 1 rfl).one | exact (hM.slF 2 rfl).one | exact (hM.slF 3 rfl).one | exact (hM.slF 4 rfl).one | exact (hM.slF 5 rfl).one | exact (hM.slF 6 rfl).one | exact RdL.one (by assumption) | exact RdF.one (by assumption) | assumption)
        intro w10 hM
        try dsimp only [List.nil_append, List.cons_append, List.set_cons_zero, List.set_cons_succ, repl] at hM
        have hS := hM.pick [0, 1] (by decide)
        refine H.back hS ?_
        refine H.done (by kernel_rfl) ?_
        refine X.outN <| X.next <| C.region <| E.mv rfl rfl <| ?_
        refine E.add rfl rfl (by omega) rfl ?_

        refine E.asg rfl rfl <| E.nil <| X.again2 (i + 1) _ (Sub.cons rfl <| Sub.nil _) rfl ⟨by rw [tab_succ]; exact hM.pick [0, 1, 2, 3] (by decide), by omega⟩ (by omega)
      ·
        refine E.call rfl rfl (At_ret a b vd dk (a - 1 - i % a) (i / a) _ (hM.arg0 hr) hok (by omega) hdv) ?_
        rintro _ w2 ⟨rfl, x2⟩
        have hM := hM.ext x2
        try dsimp only [List.nil_append, List.cons_append, List.set_cons_zero, List.set_cons_succ, repl] at hM
        have hS := hM.pick [0, 1] (by decide)
        refine H.back hS ?_
        refine H.two 1 16 rfl rfl (by kernel_rfl) ?_ ?_
        ·
          refine E.load rfl Try.underlying22 rfl (by first | exact hM.bcell 0 rfl rfl | exact hM.bcell 1 rfl rfl | exact hM.bcell 2 rfl rfl | exact hM.bcell 3 rfl rfl | exact hM.bcell 4 rfl rfl | exact hM.bcell 5 rfl rfl | exact hM.bcell 6 rfl rfl) rfl ?_
          have hS := hM.pick [0, 1] (by decide)
          refine H.back hS ?_
          refine H.only 16 rfl (by kernel_rfl) ?_
          refine E.mk1M (enc := Value.bool) _ hM rfl Try.underlying22 elem_Tbool rfl rfl ?_
          intro v38 w12 hM
          try dsimp only [List.nil_append, List.cons_append, List.set_cons_zero, List.set_cons_succ, repl] at hM
          have hS := hM.pick [0, 1] (by decide)
          refine H.back hS ?_
          refine H.only 17 rfl (by kernel_rfl) ?_
          first
            | refine E.appendM 0 hM rfl rfl rfl Try.underlying22 elem_Tbool (by first | exact hM.sl 0 rfl | exact hM.sl 1 rfl | exact hM.sl 2 rfl | exact hM.sl 3 rfl | exact hM.sl 4 rfl | exact hM.sl 5 rfl | exact hM.sl 6 rfl | exact hM.arg0 (by assumption) | exact hM.arg (by assumption) (by assumption) | assumption) ?_ ?_ ?_ rfl ?_
            | refine E.appendM 1 hM rfl rfl rfl Try.underlying22 elem_Tbool (by first | exact hM.sl 0 rfl | exact hM.sl 1 rfl | exact hM.sl 2 rfl | exact hM.sl 3 rfl | exact hM.sl 4 rfl | exact hM.sl 5 rfl | exact hM.sl 6 rfl | exact hM.arg0 (by assumption) | exact hM.arg (by assumption) (by assumption) | assumption) ?_ ?_ ?_ rfl ?_
            | refine E.appendM 2 hM rfl rfl rfl Try.underlying22 elem_Tbool (by first | exact hM.sl 0 rfl | exact hM.sl 1 rfl | exact hM.sl 2 rfl | exact hM.sl 3 rfl | exact hM.sl 4 rfl | exact hM.sl 5 rfl | exact hM.sl 6 rfl | exact hM.arg0 (by assumption) | exact hM.arg (by assumption) (by assumption) | assumption) ?_ ?_ ?_ rfl ?_
            | refine E.appendM 3 hM rfl rfl rfl Try.underlying22 elem_Tbool (by first | exact hM.sl 0 rfl | exact hM.sl 1 rfl | exact hM.sl 2 rfl | exact hM.sl 3 rfl | exact hM.sl 4 rfl | exact hM.sl 5 rfl | exact hM.sl 6 rfl | exact hM.arg0 (by assumption) | exact hM.arg (by assumption) (by assumption) | assumption) ?_ ?_ ?_ rfl ?_
            | refine E.appendM 4 hM rfl rfl rfl Try.underlying22 elem_Tbool (by first | exact hM.sl 0 rfl | exact hM.sl 1 rfl | exact hM.sl 2 rfl | exact hM.sl 3 rfl | exact hM.sl 4 rfl | exact hM.sl 5 rfl | exact hM.sl 6 rfl | exact hM.arg0 (by assumption) | exact hM.arg (by assumption) (by assumption) | assumption) ?_ ?_ ?_ rfl ?_
            | refine E.appendM 5 hM rfl rfl rfl Try.underlying22 elem_Tbool (by first | exact hM.sl 0 rfl | exact hM.sl 1 rfl | exact hM.sl 2 rfl | exact hM.sl 3 rfl | exact hM.sl 4 rfl | exact hM.sl 5 rfl | exact hM.sl 6 rfl | exact hM.arg0 (by assumption) | exact hM.arg (by assumption) (by assumption) | assumption) ?_ ?_ ?_ rfl ?_
            | refine E.appendM 6 hM rfl rfl rfl Try.underlying22 elem_Tbool (by first | exact hM.sl 0 rfl | exact hM.sl 1 rfl | exact hM.sl 2 rfl | exact hM.sl 3 rfl | exact hM.sl 4 rfl | exact hM.sl 5 rfl | exact hM.sl 6 rfl | exact hM.arg0 (by assumption) | exact hM.arg (by assumption) (by assumption) | assumption) ?_ ?_ ?_ rfl ?_
          · exact fun _ => rfl
          · exact (by first | omega | (simp only [List.length_replicate, List.length_append, List.length_set, List.length_cons, List.length_nil, List.length_map, List.length_range, List.length_take, List.length_drop, List.length_zipWith] at *; omega))
          · exact (by first | omega | (simp only [List.length_replicate, List.length_append, List.length_set, List.length_cons, List.length_nil, List.length_map, List.length_range, List.length_take, List.length_drop, List.length_zipWith] at *; omega))
          intro v39 w13 hM
          try dsimp only [List.nil_append, List.cons_append, List.set_cons_zero, List.set_cons_succ, repl] at hM
          have hS := hM.pick [0, 1] (by decide)
          refine H.back hS ?_
          refine H.takeV 18 rfl rfl (by kernel_rfl) (by kernel_rfl) (by kernel_rfl) hS (Y.fld (o := 2) (sz := 0) rfl Try.underlying24 rfl rfl (by kernel_rfl)) (fun w' hM => Y.fld (o := 2) (sz := 0) rfl Try.underlying24 rfl rfl (by kernel_rfl)) rfl ?_
          refine H.only 19 rfl (by kernel_rfl) ?_
          first
            | refine E.storeM 0 hM rfl rfl rfl (by kernel_rfl) ?_ rfl ?_
            | refine E.storeM 1 hM rfl rfl rfl (by kernel_rfl) ?_ rfl ?_
            | refine E.storeM 2 hM rfl rfl rfl (by kernel_rfl) ?_ rfl ?_
            | refine E.storeM 3 hM rfl rfl rfl (by kernel_rfl) ?_ rfl ?_
            | refine E.storeM 4 hM rfl rfl rfl (by kernel_rfl) ?_ rfl ?_
            | refine E.storeM 5 hM rfl rfl rfl (by kernel_rfl) ?_ rfl ?_
            | refine E.storeM 6 hM rfl rfl rfl (by kernel_rfl) ?_ rfl ?_
          · exact (by first | rfl | exact (hM.sl 0 rfl).one | exact (hM.sl 1 rfl).one | exact (hM.sl 2 rfl).one | exact (hM.sl 3 rfl).one | exact (hM.sl 4 rfl).one | exact (hM.sl 5 rfl).one | exact (hM.sl 6 rfl).one | exact (hM.slF 0 rfl).one | exact (hM.slF 1 rfl).one | exact (hM.slF 2 rfl).one | exact (hM.slF 3 rfl).one | exact (hM.slF 4 rfl).one | exact (hM.slF 5 rfl).one | exact (hM.slF 6 rfl).one | exact RdL.one (by assumption) | exact RdF.one (by assumption) | assumption)
          intro w14 hM
          try dsimp only [List.nil_append, List.cons_append, List.set_cons_zero, List.set_cons_succ, repl] at hM
          have hS := hM.pick [0, 1] (by decide)
          refine H.back hS ?_
          refine H.done (by kernel_rfl) ?_
          refine X.outN <| X.next <| C.region <| E.mv rfl rfl <| ?_
          refine E.add rfl rfl (by omega) rfl ?_

          refine E.asg rfl rfl <| E.nil <| X.again2 (i + 1) _ (Sub.cons rfl <| Sub.nil _) rfl ⟨by rw [tab_succ]; exact hM.pick [0, 1, 2, 3] (by decide), by omega⟩ (by omega)
        ·
          refine E.mk1M (enc := Value.bool) _ hM rfl Try.underlying22 elem_Tbool rfl rfl ?_
          intro v38 w15 hM
          try dsimp only [List.nil_append, List.cons_append, List.set_cons_zero, List.set_cons_succ, repl] at hM
          have hS := hM.pick [0, 1] (by decide)
          refine H.back hS ?_
          refine H.only 1 rfl (by kernel_rfl) ?_
          refine E.load rfl Try.underlying22 rfl (by first | exact hM.bcell 0 rfl rfl | exact hM.bcell 1 rfl rfl | exact hM.bcell 2 rfl rfl | exact hM.bcell 3 rfl rfl | exact hM.bcell 4 rfl rfl | exact hM.bcell 5 rfl rfl | exact hM.bcell 6 rfl rfl) rfl ?_
          have hS := hM.pick [0, 1] (by decide)
          refine H.back hS ?_
          refine H.only 17 rfl (by kernel_rfl) ?_
          first
            | refine E.appendM 0 hM rfl rfl rfl Try.underlying22 elem_Tbool (by first | exact hM.sl 0 rfl | exact hM.sl 1 rfl | exact hM.sl 2 rfl | exact hM.sl 3 rfl | exact hM.sl 4 rfl | exact hM.sl 5 rfl | exact hM.sl 6 rfl | exact hM.arg0 (by assumption) | exact hM.arg (by assumption) (by assumption) | assumption) ?_ ?_ ?_ rfl ?_
            | refine E.appendM 1 hM rfl rfl rfl Try.underlying22 elem_Tbool (by first | exact hM.sl 0 rfl | exact hM.sl 1 rfl | exact hM.sl 2 rfl | exact hM.sl 3 rfl | exact hM.sl 4 rfl | exact hM.sl 5 rfl | exact hM.sl 6 rfl | exact hM.arg0 (by assumption) | exact hM.arg (by assumption) (by assumption) | assumption) ?_ ?_ ?_ rfl ?_
            | refine E.appendM 2 hM rfl rfl rfl Try.underlying22 elem_Tbool (by first | exact hM.sl 0 rfl | exact hM.sl 1 rfl | exact hM.sl 2 rfl | exact hM.sl 3 rfl | exact hM.sl 4 rfl | exact hM.sl 5 rfl | exact hM.sl 6 rfl | exact hM.arg0 (by assumption) | exact hM.arg (by assumption) (by assumption) | assumption) ?_ ?_ ?_ rfl ?_
            | refine E.appendM 3 hM rfl rfl rfl Try.underlying22 elem_Tbool (by first | exact hM.sl 0 rfl | exact hM.sl 1 rfl | exact hM.sl 2 rfl | exact hM.sl 3 rfl | exact hM.sl 4 rfl | exact hM.sl 5 rfl | exact hM.sl 6 rfl | exact hM.arg0 (by assumption) | exact hM.arg (by assumption) (by assumption) | assumption) ?_ ?_ ?_ rfl ?_
            | refine E.appendM 4 hM rfl rfl rfl Try.underlying22 elem_Tbool (by first | exact hM.sl 0 rfl | exact hM.sl 1 rfl | exact hM.sl 2 rfl | exact hM.sl 3 rfl | exact hM.sl 4 rfl | exact hM.sl 5 rfl | exact hM.sl 6 rfl | exact hM.arg0 (by assumption) | exact hM.arg (by assumption) (by assumption) | assumption) ?_ ?_ ?_ rfl ?_
            | refine E.appendM 5 hM rfl rfl rfl Try.underlying22 elem_Tbool (by first | exact hM.sl 0 rfl | exact hM.sl 1 rfl | exact hM.sl 2 rfl | exact hM.sl 3 rfl | exact hM.sl 4 rfl | exact hM.sl 5 rfl | exact hM.sl 6 rfl | exact hM.arg0 (by assumption) | exact hM.arg (by assumption) (by assumption) | assumption) ?_ ?_ ?_ rfl ?_
            | refine E.appendM 6 hM rfl rfl rfl Try.underlying22 elem_Tbool (by first | exact hM.sl 0 rfl | exact hM.sl 1 rfl | exact hM.sl 2 rfl | exact hM.sl 3 rfl | exact hM.sl 4 rfl | exact hM.sl 5 rfl | exact hM.sl 6 rfl | exact hM.arg0 (by assumption) | exact hM.arg (by assumption) (by assumption) | assumption) ?_ ?_ ?_ rfl ?_
          · exact fun _ => rfl
          · exact (by first | omega | (simp only [List.length_replicate, List.length_append, List.length_set, List.length_cons, List.length_nil, List.length_map, List.length_range, List.length_take, List.length_drop, List.length_zipWith] at *; omega))
          · exact (by first | omega | (simp only [List.length_replicate, List.length_append, List.length_set, List.length_cons, List.length_nil, List.length_map, List.length_range, List.length_take, List.length_drop, List.length_zipWith] at *; omega))
          intro v39 w16 hM
          try dsimp only [List.nil_append, List.cons_append, List.set_cons_zero, List.set_cons_succ, repl] at hM
          have hS := hM.pick [0, 1] (by decide)
          refine H.back hS ?_
          refine H.takeV 18 rfl rfl (by kernel_rfl) (by kernel_rfl) (by kernel_rfl) hS (Y.fld (o := 2) (sz := 0) rfl Try.underlying24 rfl rfl (by kernel_rfl)) (fun w' hM => Y.fld (o := 2) (sz := 0) rfl Try.underlying24 rfl rfl (by kernel_rfl)) rfl ?_
          refine H.only 19 rfl (by kernel_rfl) ?_
          first
            | refine E.storeM 0 hM rfl rfl rfl (by kernel_rfl) ?_ rfl ?_
            | refine E.storeM 1 hM rfl rfl rfl (by kernel_rfl) ?_ rfl ?_
            | refine E.storeM 2 hM rfl rfl rfl (by kernel_rfl) ?_ rfl ?_
            | refine E.storeM 3 hM rfl rfl rfl (by kernel_rfl) ?_ rfl ?_
            | refine E.storeM 4 hM rfl rfl rfl (by kernel_rfl) ?_ rfl ?_
            | refine E.storeM 5 hM rfl rfl rfl (by kernel_rfl) ?_ rfl ?_
            | refine E.storeM 6 hM rfl rfl rfl (by kernel_rfl) ?_ rfl ?_
          · exact (by first | rfl | exact (hM.sl 0 rfl).one | exact (hM.sl 1 rfl).one | exact (hM.sl 2 rfl).one | exact (hM.sl 3 rfl).one | exact (hM.sl 4 rfl).one | exact (hM.sl 5 rfl).one | exact (hM.sl 6 rfl).one | exact (hM.slF 0 rfl).one | exact (hM.slF 1 rfl).one | exact (hM.slF 2 rfl).one | exact (hM.slF 3 rfl).one | exact (hM.slF 4 rfl).one | exact (hM.slF 5 rfl).one | exact (hM.slF 6 rfl).one | exact RdL.one (by assumption) | exact RdF.one (by assumption) | assumption)
          intro w17 hM
          try dsimp only [List.nil_append, List.cons_append, List.set_cons_zero, List.set_cons_succ, repl] at hM
          have hS := hM.pick [0, 1] (by decide)
          refine H.back hS ?_
          refine H.done (by kernel_rfl) ?_
          refine X.outN <| X.next <| C.region <| E.mv rfl rfl <| ?_
          refine E.add rfl rfl (by omega) rfl ?_

          refine E.asg rfl rfl <| E.nil <| X.again2 (i + 1) _ (Sub.cons rfl <| Sub.nil _) rfl ⟨by rw [tab_succ]; exact hM.pick [0, 1, 2, 3] (by decide), by omega⟩ (by omega)
    ·
      obtain rfl : i = dk.length := by omega
      refine C.exit <| X.exitT <| X.exitT <| X.outE <| X.next <| C.seq <| C.region <| ?_
      refine E.loadA rfl Try.underlying24 rfl (by kernel_rfl) (by first | exact hM.bat 0 rfl | exact hM.bat 1 rfl | exact hM.bat 2 rfl | exact hM.bat 3 rfl | exact hM.bat 4 rfl | exact hM.bat 5 rfl | exact hM.bat 6 rfl) rfl ?_
      first
        | refine E.storeAM 0 hM rfl rfl rfl (by kernel_rfl) rfl ?_ ?_
        | refine E.storeAM 1 hM rfl rfl rfl (by kernel_rfl) rfl ?_ ?_
        | refine E.storeAM 2 hM rfl rfl rfl (by kernel_rfl) rfl ?_ ?_
        | refine E.storeAM 3 hM rfl rfl rfl (by kernel_rfl) rfl ?_ ?_
        | refine E.storeAM 4 hM rfl rfl rfl (by kernel_rfl) rfl ?_ ?_
        | refine E.storeAM 5 hM rfl rfl rfl (by kernel_rfl) rfl ?_ ?_
        | refine E.storeAM 6 hM rfl rfl rfl (by kernel_rfl) rfl ?_ ?_
      · exact ones (by first | rfl | exact (hM.sl 0 rfl).one | exact (hM.sl 1 rfl).one | exact (hM.sl 2 rfl).one | exact (hM.sl 3 rfl).one | exact (hM.sl 4 rfl).one | exact (hM.sl 5 rfl).one | exact (hM.sl 6 rfl).one | exact (hM.slF 0 rfl).one | exact (hM.slF 1 rfl).one | exact (hM.slF 2 rfl).one | exact (hM.slF 3 rfl).one | exact (hM.slF 4 rfl).one | exact (hM.slF 5 rfl).one | exact (hM.slF 6 rfl).one | exact RdL.one (by assumption) | exact RdF.one (by assumption) | assumption) <| ones (by first | rfl | exact (hM.sl 0 rfl).one | exact (hM.sl 1 rfl).one | exact (hM.sl 2 rfl).one | exact (hM.sl 3 rfl).one | exact (hM.sl 4 rfl).one | exact (hM.sl 5 rfl).one | exact (hM.sl 6 rfl).one | exact (hM.slF 0 rfl).one | exact (hM.slF 1 rfl).one | exact (hM.slF 2 rfl).one | exact (hM.slF 3 rfl).one | exact (hM.slF 4 rfl).one | exact (hM.slF 5 rfl).one | exact (hM.slF 6 rfl).one | exact RdL.one (by assumption) | exact RdF.one (by assumption) | assumption) <| ones (by first | rfl | exact (hM.sl 0 rfl).one | exact (hM.sl 1 rfl).one | exact (hM.sl 2 rfl).one | exact (hM.sl 3 rfl).one | exact (hM.sl 4 rfl).one | exact (hM.sl 5 rfl).one | exact (hM.sl 6 rfl).one | exact (hM.slF 0 rfl).one | exact (hM.slF 1 rfl).one | exact (hM.slF 2 rfl).one | exact (hM.slF 3 rfl).one | exact (hM.slF 4 rfl).one | exact (hM.slF 5 rfl).one | exact (hM.slF 6 rfl).one | exact RdL.one (by assumption) | exact RdF.one (by assumption) | assumption) <| ones_nil
      intro w18 hM
      try dsimp only [List.nil_append, List.cons_append, List.set_cons_zero, List.set_cons_succ, repl] at hM
      refine E.asg rfl rfl <| E.nil <| X.next <| C.ret <| retAT rfl rfl rfl Try.underlying24 rfl (by first | exact hM.blk 0 rfl | exact hM.blk 1 rfl | exact hM.blk 2 rfl | exact hM.blk 3 rfl | exact hM.blk 4 rfl | exact hM.blk 5 rfl | exact hM.blk 6 rfl) (by kernel_rfl) ?_
      exact ⟨_, _, _, _, _, rfl, ⟨a, b, rfl, rfl, rfl, by rw [tab_len]; exact hok, mir_sy (by omega) hn⟩, hM.pick [3] (by decide)⟩

def tnf (a b : Nat) (l : List Bool) (i : Nat) : Bool := l.getD (turnf a b i) false
theorem tn_sy {a b : Nat} {l : List Bool} (ha : 0 < a) (hb : 0 < b) (hn : l.length = a * b) : Sy a b l b a (tab l.length (tnf a b l)) := by
  refine co_turn.sy ha hb hn (by rw [tab_len, Nat.mul_comm]; exact hn) (by rw [tab_len]) fun i hi => ?_
  rw [tab_len] at hi
  have hlt : turnf a b i < l.length := by rw [hn]; exact turnf_lt ha hb (by omega)
  rw [tab_get hi, tnf, List.getD_eq_getElem?_getD, List.getElem?_eq_getElem hlt]
  show _ = l[turnf a b i]?
  rw [List.getElem?_eq_getElem hlt]; rfl
theorem ok_swap {a b n : Nat} (h : okMat (a : Int) (b : Int) n) : okMat (b : Int) (a : Int) n := by
  unfold okMat okSize at *
  rw [Int.mul_comm (b : Int) (a : Int)]; omega
set_option maxHeartbeats 2000000 in
theorem Turn_ret (a b : Nat) (vd : Value) (dk : List Bool) (x : Int) (w : World) (hr : RdL Value.bool w vd dk) (hok : okMat (a : Int) (b : Int) dk.length) :
    Ret Try.prog 28 #[mat a b vd, i64 x] w fun v w' => MatAns (TurnSp a b dk) v w w' := by
  obtain ⟨a0, b0, ea, eb, hW, hH, hn, hn0⟩ := hok.nat
  obtain rfl : a = a0 := by omega
  obtain rfl : b = b0 := by omega
  have hM := M.start w
  refine enter Try.func28 rfl (by kernel_rfl) Try.ntmps28 rfl ?_
  refine C.seq <| C.region <| ?_
  refine E.boxM hM rfl rfl rfl ?_
  intro b2 w0 hM
  try dsimp only [List.nil_append, List.cons_append, List.set_cons_zero, List.set_cons_succ, repl] at hM
  refine E.allocM (z := .agg #[.int .i64 0, .int .i64 0, .slice none 0 0]) (cs := [.int .i64 0, .int .i64 0, .slice none 0 0]) hM (by kernel_rfl) rfl rfl ?_
  intro b4 w1 hM
  try dsimp only [List.nil_append, List.cons_append, List.set_cons_zero, List.set_cons_succ, repl] at hM
  refine E.asg rfl rfl <| E.nil <| X.next <| C.seq <| C.seq <| C.region <| ?_
  refine E.loadA rfl Try.underlying24 rfl (by kernel_rfl) (by first | exact hM.bat 0 rfl | exact hM.bat 1 rfl | exact hM.bat 2 rfl | exact hM.bat 3 rfl | exact hM.bat 4 rfl | exact hM.bat 5 rfl | exact hM.bat 6 rfl) rfl ?_
  refine E.call rfl rfl (Valid_ret a b vd dk.length _ hr.shape) ?_
  rintro _ w1 ⟨rfl, x1⟩
  have hM := hM.ext x1
  rw [decide_eq_true hok]
  try dsimp only [List.nil_append, List.cons_append, List.set_cons_zero, List.set_cons_succ, repl] at hM
  refine E.not rfl rfl <| E.nil <| X.next <| ?_
  refine C.cond rfl (fun hC0 => ?_) (fun hC0 => ?_)
  ·
    cases hC0
  ·
    refine C.skip <| X.next <| ?_

    refine C.cut2 [(1, _), (2, _), (4, _)] rfl (fun (b6 : Nat) (vo : Value) => [(6, .pointer (some ⟨b6, 0, none⟩))]) (fun (b6 : Nat) (vo : Value) w' => M w (Nn) w' [Rg.blk b2 24 [i64 a, i64 b, vd], Rg.blk b4 24 [.int .i64 0, .int .i64 0, .slice none 0 0], Rg.blk b6 24 [i64 a, i64 b, vo], Rg.sl Value.bool 4 vo dk]) ?_ ?_
    ·
      refine C.heldM hM [0, 1] (by decide) (by kernel_rfl) fun wh3 hM hS => ?_
      refine H.takeV 0 rfl rfl (by kernel_rfl) (by kernel_rfl) (by kernel_rfl) hS (Y.fld (o := 0) (sz := 0) rfl Try.underlying24 rfl rfl (by kernel_rfl)) (fun w' hM => Y.fld (o := 0) (sz := 0) rfl Try.underlying24 rfl rfl (by kernel_rfl)) rfl ?_
      refine H.takeV 2 rfl rfl (by kernel_rfl) (by kernel_rfl) (by kernel_rfl) hS (Y.fld (o := 1) (sz := 0) rfl Try.underlying24 rfl rfl (by kernel_rfl)) (fun w' hM => Y.fld (o := 1) (sz := 0) rfl Try.underlying24 rfl rfl (by kernel_rfl)) rfl ?_
      refine H.takeV 5 rfl rfl (by kernel_rfl) (by kernel_rfl) (by kernel_rfl) hS (Y.fld (o := 2) (sz := 0) rfl Try.underlying24 rfl rfl (by kernel_rfl)) (fun w' hM => Y.fld (o := 2) (sz := 0) rfl Try.underlying24 rfl rfl (by kernel_rfl)) rfl ?_
      refine H.takeV 1 rfl rfl (by kernel_rfl) (by kernel_rfl) (by kernel_rfl) hS (Y.load rfl Try.underlying3 rfl (by first | exact hS.bcell 0 rfl rfl | exact hS.bcell 1 rfl rfl | exact hS.bcell 2 rfl rfl | exact hS.bcell 3 rfl rfl | exact hS.bcell 4 rfl rfl | exact hS.bcell 5 rfl rfl | exact hS.bcell 6 rfl rfl)) (fun w' hM => Y.load rfl Try.underlying3 rfl (by first | exact hM.bcell 0 rfl rfl | exact hM.bcell 1 rfl rfl | exact hM.bcell 2 rfl rfl | exact hM.bcell 3 rfl rfl | exact hM.bcell 4 rfl rfl | exact hM.bcell 5 rfl rfl | exact hM.bcell 6 rfl rfl)) rfl ?_
      refine H.takeV 3 rfl rfl (by kernel_rfl) (by kernel_rfl) (by kernel_rfl) hS (Y.load rfl Try.underlying3 rfl (by first | exact hS.bcell 0 rfl rfl | exact hS.bcell 1 rfl rfl | exact hS.bcell 2 rfl rfl | exact hS.bcell 3 rfl rfl | exact hS.bcell 4 rfl rfl | exact hS.bcell 5 rfl rfl | exact hS.bcell 6 rfl rfl)) (fun w' hM => Y.load rfl Try.underlying3 rfl (by first | exact hM.bcell 0 rfl rfl | exact hM.bcell 1 rfl rfl | exact hM.bcell 2 rfl rfl | exact hM.bcell 3 rfl rfl | exact hM.bcell 4 rfl rfl | exact hM.bcell 5 rfl rfl | exact hM.bcell 6 rfl rfl)) rfl ?_
      refine H.takeV 6 rfl rfl (by kernel_rfl) (by kernel_rfl) (by kernel_rfl) hS (Y.load rfl Try.underlying22 rfl (by first | exact hS.bcell 0 rfl rfl | exact hS.bcell 1 rfl rfl | exact hS.bcell 2 rfl rfl | exact hS.bcell 3 rfl rfl | exact hS.bcell 4 rfl rfl | exact hS.bcell 5 rfl rfl | exact hS.bcell 6 rfl rfl)) (fun w' hM => Y.load rfl Try.underlying22 rfl (by first | exact hM.bcell 0 rfl rfl | exact hM.bcell 1 rfl rfl | exact hM.bcell 2 rfl rfl | exact hM.bcell 3 rfl rfl | exact hM.bcell 4 rfl rfl | exact hM.bcell 5 rfl rfl | exact hM.bcell 6 rfl rfl)) rfl ?_
      refine H.two 4 9 rfl rfl (by kernel_rfl) ?_ ?_
      ·
        refine E.mkM (enc := Value.bool) (e := 4) [] hM rfl (fun _ => by kernel_rfl) rfl rfl rfl ?_
        intro v18 w4 hM
        try dsimp only [List.nil_append, List.cons_append, List.set_cons_zero, List.set_cons_succ, repl] at hM
        have hS := hM.pick [0, 1] (by decide)
        refine H.back hS ?_
        refine H.two 7 9 rfl rfl (by kernel_rfl) ?_ ?_
        ·
          first
            | refine E.appendM 0 hM rfl rfl rfl Try.underlying22 elem_Tbool (by first | exact hM.sl 0 rfl | exact hM.sl 1 rfl | exact hM.sl 2 rfl | exact hM.sl 3 rfl | exact hM.sl 4 rfl | exact hM.sl 5 rfl | exact hM.sl 6 rfl | exact hM.arg0 (by assumption) | exact hM.arg (by assumption) (by assumption) | assumption) ?_ ?_ ?_ rfl ?_
            | refine E.appendM 1 hM rfl rfl rfl Try.underlying22 elem_Tbool (by first | exact hM.sl 0 rfl | exact hM.sl 1 rfl | exact hM.sl 2 rfl | exact hM.sl 3 rfl | exact hM.sl 4 rfl | exact hM.sl 5 rfl | exact hM.sl 6 rfl | exact hM.arg0 (by assumption) | exact hM.arg (by assumption) (by assumption) | assumption) ?_ ?_ ?_ rfl ?_
            | refine E.appendM 2 hM rfl rfl rfl Try.underlying22 elem_Tbool (by first | exact hM.sl 0 rfl | exact hM.sl 1 rfl | exact hM.sl 2 rfl | exact hM.sl 3 rfl | exact hM.sl 4 rfl | exact hM.sl 5 rfl | exact hM.sl 6 rfl | exact hM.arg0 (by assumption) | exact hM.arg (by assumption) (by assumption) | assumption) ?_ ?_ ?_ rfl ?_
            | refine E.appendM 3 hM rfl rfl rfl Try.underlying22 elem_Tbool (by first | exact hM.sl 0 rfl | exact hM.sl 1 rfl | exact hM.sl 2 rfl | exact hM.sl 3 rfl | exact hM.sl 4 rfl | exact hM.sl 5 rfl | exact hM.sl 6 rfl | exact hM.arg0 (by assumption) | exact hM.arg (by assumption) (by assumption) | assumption) ?_ ?_ ?_ rfl ?_
            | refine E.appendM 4 hM rfl rfl rfl Try.underlying22 elem_Tbool (by first | exact hM.sl 0 rfl | exact hM.sl 1 rfl | exact hM.sl 2 rfl | exact hM.sl 3 rfl | exact hM.sl 4 rfl | exact hM.sl 5 rfl | exact hM.sl 6 rfl | exact hM.arg0 (by assumption) | exact hM.arg (by assumption) (by assumption) | assumption) ?_ ?_ ?_ rfl ?_
            | refine E.appendM 5 hM rfl rfl rfl Try.underlying22 elem_Tbool (by first | exact hM.sl 0 rfl | exact hM.sl 1 rfl | exact hM.sl 2 rfl | exact hM.sl 3 rfl | exact hM.sl 4 rfl | exact hM.sl 5 rfl | exact hM.sl 6 rfl | exact hM.arg0 (by assumption) | exact hM.arg (by assumption) (by assumption) | assumption) ?_ ?_ ?_ rfl ?_
            | refine E.appendM 6 hM rfl rfl rfl Try.underlying22 elem_Tbool (by first | exact hM.sl 0 rfl | exact hM.sl 1 rfl | exact hM.sl 2 rfl | exact hM.sl 3 rfl | exact hM.sl 4 rfl | exact hM.sl 5 rfl | exact hM.sl 6 rfl | exact hM.arg0 (by assumption) | exact hM.arg (by assumption) (by assumption) | assumption) ?_ ?_ ?_ rfl ?_
          · exact fun _ => rfl
          · exact (by first | omega | (simp only [List.length_replicate, List.length_append, List.length_set, List.length_cons, List.length_nil, List.length_map, List.length_range, List.length_take, List.length_drop, List.length_zipWith] at *; omega))
          · exact (by first | omega | (simp only [List.length_replicate, List.length_append, List.length_set, List.length_cons, List.length_nil, List.length_map, List.length_range, List.length_take, List.length_drop, List.length_zipWith] at *; omega))
          intro v21 w5 hM
          try dsimp only [List.nil_append, List.cons_append, List.set_cons_zero, List.set_cons_succ, repl] at hM
          have hS := hM.pick [0, 1] (by decide)
          refine H.back hS ?_
          first
            | obtain ⟨p21, c21, rfl⟩ := (hM.sl 2 rfl).shape
            | obtain ⟨p21, c21, rfl⟩ := (hM.sl 3 rfl).shape
          refine H.take 8 rfl rfl (by kernel_rfl) (by kernel_rfl) (by kernel_rfl) hS (fun w' hM => Y.buildC (cs := [_, _, _]) [.int .i64 0, .int .i64 0, .slice none 0 0] [0, 1, 2] rfl rfl (by kernel_rfl)) rfl ?_
          refine H.only 9 rfl (by kernel_rfl) ?_
          refine E.allocM (z := .agg #[.int .i64 0, .int .i64 0, .slice none 0 0]) (cs := [.int .i64 0, .int .i64 0, .slice none 0 0]) hM (by kernel_rfl) rfl rfl ?_
          intro b6 w6 hM
          try dsimp only [List.nil_append, List.cons_append, List.set_cons_zero, List.set_cons_succ, repl] at hM
          have hS := hM.pick [0, 1] (by decide)
          refine H.back hS ?_
          refine H.only 10 rfl (by kernel_rfl) ?_
          first
            | refine E.storeAM 0 hM rfl rfl rfl (by kernel_rfl) rfl ?_ ?_
            | refine E.storeAM 1 hM rfl rfl rfl (by kernel_rfl) rfl ?_ ?_
            | refine E.storeAM 2 hM rfl rfl rfl (by kernel_rfl) rfl ?_ ?_
            | refine E.storeAM 3 hM rfl rfl rfl (by kernel_rfl) rfl ?_ ?_
            | refine E.storeAM 4 hM rfl rfl rfl (by kernel_rfl) rfl ?_ ?_
            | refine E.storeAM 5 hM rfl rfl rfl (by kernel_rfl) rfl ?_ ?_
            | refine E.storeAM 6 hM rfl rfl rfl (by kernel_rfl) rfl ?_ ?_
          · exact ones (by first | rfl | exact (hM.sl 0 rfl).one | exact (hM.sl 1 rfl).one | exact (hM.sl 2 rfl).one | exact (hM.sl 3 rfl).one | exact (hM.sl 4 rfl).one | exact (hM.sl 5 rfl).one | exact (hM.sl 6 rfl).one | exact (hM.slF 0 rfl).one | exact (hM.slF 1 rfl).one | exact (hM.slF 2 rfl).one | exact (hM.slF 3 rfl).one | exact (hM.slF 4 rfl).one | exact (hM.slF 5 rfl).one | exact (hM.slF 6 rfl).one | exact RdL.one (by assumption) | exact RdF.one (by assumption) | assumption) <| ones (by first | rfl | exact (hM.sl 0 rfl).one | exact (hM.sl 1 rfl).one | exact (hM.sl 2 rfl).one | exact (hM.sl 3 rfl).one | exact (hM.sl 4 rfl).one | exact (hM.sl 5 rfl).one | exact (hM.sl 6 rfl).one | exact (hM.slF 0 rfl).one | exact (hM.slF 1 rfl).one | exact (hM.slF 2 rfl).one | exact (hM.slF 3 rfl).one | exact (hM.slF 4 rfl).one | exact (hM.slF 5 rfl).one | exact (hM.slF 6 rfl).one | exact RdL.one (by assumption) | exact RdF.one (by assumption) | assumption) <| ones (by first | rfl | exact (hM.sl 0 rfl).one | exact (hM.sl 1 rfl).one | exact (hM.sl 2 rfl).one | exact (hM.sl 3 rfl).one | exact (hM.sl 4 rfl).one | exact (hM.sl 5 rfl).one | exact (hM.sl 6 rfl).one | exact (hM.slF 0 rfl).one | exact (hM.slF 1 rfl).one | exact (hM.slF 2 rfl).one | exact (hM.slF 3 rfl).one | exact (hM.slF 4 rfl).one | exact (hM.slF 5 rfl).one | exact (hM.slF 6 rfl).one | exact RdL.one (by assumption) | exact RdF.one (by assumption) | assumption) <| ones_nil
          intro w7 hM
          try dsimp only [List.nil_append, List.cons_append, List.set_cons_zero, List.set_cons_succ, repl] at hM
          have hS := hM.pick [0, 1] (by decide)
          refine H.back hS ?_
          refine H.done (by kernel_rfl) ?_

          refine X.join2 _ _ (Sub.cons rfl <| Sub.nil _) rfl (hM.pick [0, 1, 3, 2] (by decide))
        ·
          refine E.allocM (z := .agg #[.int .i64 0, .int .i64 0, .slice none 0 0]) (cs := [.int .i64 0, .int .i64 0, .slice none 0 0]) hM (by kernel_rfl) rfl rfl ?_
          intro b6 w8 hM
          try dsimp only [List.nil_append, List.cons_append, List.set_cons_zero, List.set_cons_succ, repl] at hM
          have hS := hM.pick [0, 1] (by decide)
          refine H.back hS ?_
          refine H.only 7 rfl (by kernel_rfl) ?_
          first
            | refine E.appendM 0 hM rfl rfl rfl Try.underlying22 elem_Tbool (by first | exact hM.sl 0 rfl | exact hM.sl 1 rfl | exact hM.sl 2 rfl | exact hM.sl 3 rfl | exact hM.sl 4 rfl | exact hM.sl 5 rfl | exact hM.sl 6 rfl | exact hM.arg0 (by assumption) | exact hM.arg (by assumption) (by assumption) | assumption) ?_ ?_ ?_ rfl ?_
            | refine E.appendM 1 hM rfl rfl rfl Try.underlying22 elem_Tbool (by first | exact hM.sl 0 rfl | exact hM.sl 1 rfl | exact hM.sl 2 rfl | exact hM.sl 3 rfl | exact hM.sl 4 rfl | exact hM.sl 5 rfl | exact hM.sl 6 rfl | exact hM.arg0 (by assumption) | exact hM.arg (by assumption) (by assumption) | assumption) ?_ ?_ ?_ rfl ?_
            | refine E.appendM 2 hM rfl rfl rfl Try.underlying22 elem_Tbool (by first | exact hM.sl 0 rfl | exact hM.sl 1 rfl | exact hM.sl 2 rfl | exact hM.sl 3 rfl | exact hM.sl 4 rfl | exact hM.sl 5 rfl | exact hM.sl 6 rfl | exact hM.arg0 (by assumption) | exact hM.arg (by assumption) (by assumption) | assumption) ?_ ?_ ?_ rfl ?_
            | refine E.appendM 3 hM rfl rfl rfl Try.underlying22 elem_Tbool (by first | exact hM.sl 0 rfl | exact hM.sl 1 rfl | exact hM.sl 2 rfl | exact hM.sl 3 rfl | exact hM.sl 4 rfl | exact hM.sl 5 rfl | exact hM.sl 6 rfl | exact hM.arg0 (by assumption) | exact hM.arg (by assumption) (by assumption) | assumption) ?_ ?_ ?_ rfl ?_
            | refine E.appendM 4 hM rfl rfl rfl Try.underlying22 elem_Tbool (by first | exact hM.sl 0 rfl | exact hM.sl 1 rfl | exact hM.sl 2 rfl | exact hM.sl 3 rfl | exact hM.sl 4 rfl | exact hM.sl 5 rfl | exact hM.sl 6 rfl | exact hM.arg0 (by assumption) | exact hM.arg (by assumption) (by assumption) | assumption) ?_ ?_ ?_ rfl ?_
            | refine E.appendM 5 hM rfl rfl rfl Try.underlying22 elem_Tbool (by first | exact hM.sl 0 rfl | exact hM.sl 1 rfl | exact hM.sl 2 rfl | exact hM.sl 3 rfl | exact hM.sl 4 rfl | exact hM.sl 5 rfl | exact hM.sl 6 rfl | exact hM.arg0 (by assumption) | exact hM.arg (by assumption) (by assumption) | assumption) ?_ ?_ ?_ rfl ?_
            | refine E.appendM 6 hM rfl rfl rfl Try.underlying22 elem_Tbool (by first | exact hM.sl 0 rfl | exact hM.sl 1 rfl | exact hM.sl 2 rfl | exact hM.sl 3 rfl | exact hM.sl 4 rfl | exact hM.sl 5 rfl | exact hM.sl 6 rfl | exact hM.arg0 (by assumption) | exact hM.arg (by assumption) (by assumption) | assumption) ?_ ?_ ?_ rfl ?_
          · exact fun _ => rfl
          · exact (by first | omega | (simp only [List.length_replicate, List.length_append, List.length_set, List.length_cons, List.length_nil, List.length_map, List.length_range, List.length_take, List.length_drop, List.length_zipWith] at *; omega))
          · exact (by first | omega | (simp only [List.length_replicate, List.length_append, List.length_set, List.length_cons, List.length_nil, List.length_map, List.length_range, List.length_take, List.length_drop, List.length_zipWith] at *; omega))
          intro v21 w9 hM
          try dsimp only [List.nil_append, List.cons_append, List.set_cons_zero, List.set_cons_succ, repl] at hM
          have hS := hM.pick [0, 1] (by decide)
          refine H.back hS ?_
          first
            | obtain ⟨p21, c21, rfl⟩ := (hM.sl 2 rfl).shape
            | obtain ⟨p21, c21, rfl⟩ := (hM.sl 3 rfl).shape
          refine H.take 8 rfl rfl (by kernel_rfl) (by kernel_rfl) (by kernel_rfl) hS (fun w' hM => Y.buildC (cs := [_, _, _]) [.int .i64 0, .int .i64 0, .slice none 0 0] [0, 1, 2] rfl rfl (by kernel_rfl)) rfl ?_
          refine H.only 10 rfl (by kernel_rfl) ?_
          first
            | refine E.storeAM 0 hM rfl rfl rfl (by kernel_rfl) rfl ?_ ?_
            | refine E.storeAM 1 hM rfl rfl rfl (by kernel_rfl) rfl ?_ ?_
            | refine E.storeAM 2 hM rfl rfl rfl (by kernel_rfl) rfl ?_ ?_
            | refine E.storeAM 3 hM rfl rfl rfl (by kernel_rfl) rfl ?_ ?_
            | refine E.storeAM 4 hM rfl rfl rfl (by kernel_rfl) rfl ?_ ?_
            | refine E.storeAM 5 hM rfl rfl rfl (by kernel_rfl) rfl ?_ ?_
            | refine E.storeAM 6 hM rfl rfl rfl (by kernel_rfl) rfl ?_ ?_
          · exact ones (by first | rfl | exact (hM.sl 0 rfl).one | exact (hM.sl 1 rfl).one | exact (hM.sl 2 rfl).one | exact (hM.sl 3 rfl).one | exact (hM.sl 4 rfl).one | exact (hM.sl 5 rfl).one | exact (hM.sl 6 rfl).one | exact (hM.slF 0 rfl).one | exact (hM.slF 1 rfl).one | exact (hM.slF 2 rfl).one | exact (hM.slF 3 rfl).one | exact (hM.slF 4 rfl).one | exact (hM.slF 5 rfl).one | exact (hM.slF 6 rfl).one | exact RdL.one (by assumption) | exact RdF.one (by assumption) | assumption) <| ones (by first | rfl | exact (hM.sl 0 rfl).one | exact (hM.sl 1 rfl).one | exact (hM.sl 2 rfl).one | exact (hM.sl 3 rfl).one | exact (hM.sl 4 rfl).one | exact (hM.sl 5 rfl).one | exact (hM.sl 6 rfl).one | exact (hM.slF 0 rfl).one | exact (hM.slF 1 rfl).one | exact (hM.slF 2 rfl).one | exact (hM.slF 3 rfl).one | exact (hM.slF 4 rfl).one | exact (hM.slF 5 rfl).one | exact (hM.slF 6 rfl).one | exact RdL.one (by assumption) | exact RdF.one (by assumption) | assumption) <| ones (by first | rfl | exact (hM.sl 0 rfl).one | exact (hM.sl 1 rfl).one | exact (hM.sl 2 rfl).one | exact (hM.sl 3 rfl).one | exact (hM.sl 4 rfl).one | exact (hM.sl 5 rfl).one | exact (hM.sl 6 rfl).one | exact (hM.slF 0 rfl).one | exact (hM.slF 1 rfl).one | exact (hM.slF 2 rfl).one | exact (hM.slF 3 rfl).one | exact (hM.slF 4 rfl).one | exact (hM.slF 5 rfl).one | exact (hM.slF 6 rfl).one | exact RdL.one (by assumption) | exact RdF.one (by assumption) | assumption) <| ones_nil
          intro w10 hM
          try dsimp only [List.nil_append, List.cons_append, List.set_cons_zero, List.set_cons_succ, repl] at hM
          have hS := hM.pick [0, 1] (by decide)
          refine H.back hS ?_
          refine H.done (by kernel_rfl) ?_

          refine X.join2 _ _ (Sub.cons rfl <| Sub.nil _) rfl (hM.pick [0, 1, 3, 2] (by decide))
      ·
        refine E.allocM (z := .agg #[.int .i64 0, .int .i64 0, .slice none 0 0]) (cs := [.int .i64 0, .int .i64 0, .slice none 0 0]) hM (by kernel_rfl) rfl rfl ?_
        intro b6 w11 hM
        try dsimp only [List.nil_append, List.cons_append, List.set_cons_zero, List.set_cons_succ, repl] at hM
        have hS := hM.pick [0, 1] (by decide)
        refine H.back hS ?_
        refine H.only 4 rfl (by kernel_rfl) ?_
        refine E.mkM (enc := Value.bool) (e := 4) [] hM rfl (fun _ => by kernel_rfl) rfl rfl rfl ?_
        intro v18 w12 hM
        try dsimp only [List.nil_append, List.cons_append, List.set_cons_zero, List.set_cons_succ, repl] at hM
        have hS := hM.pick [0, 1] (by decide)
        refine H.back hS ?_
        refine H.only 7 rfl (by kernel_rfl) ?_
        first
          | refine E.appendM 0 hM rfl rfl rfl Try.underlying22 elem_Tbool (by first | exact hM.sl 0 rfl | exact hM.sl 1 rfl | exact hM.sl 2 rfl | exact hM.sl 3 rfl | exact hM.sl 4 rfl | exact hM.sl 5 rfl | exact hM.sl 6 rfl | exact hM.arg0 (by assumption) | exact hM.arg (by assumption) (by assumption) | assumption) ?_ ?_ ?_ rfl ?_
          | refine E.appendM 1 hM rfl rfl rfl Try.underlying22 elem_Tbool (by first | exact hM.sl 0 rfl | exact hM.sl 1 rfl | exact hM.sl 2 rfl | exact hM.sl 3 rfl | exact hM.sl 4 rfl | exact hM.sl 5 rfl | exact hM.sl 6 rfl | exact hM.arg0 (by assumption) | exact hM.arg (by assumption) (by assumption) | assumption) ?_ ?_ ?_ rfl ?_
          | refine E.appendM 2 hM rfl rfl rfl Try.underlying22 elem_Tbool (by first | exact hM.sl 0 rfl | exact hM.sl 1 rfl | exact hM.sl 2 rfl | exact hM.sl 3 rfl | exact hM.sl 4 rfl | exact hM.sl 5 rfl | exact hM.sl 6 rfl | exact hM.arg0 (by assumption) | exact hM.arg (by assumption) (by assumption) | assumption) ?_ ?_ ?_ rfl ?_
          | refine E.appendM 3 hM rfl rfl rfl Try.underlying22 elem_Tbool (by first | exact hM.sl 0 rfl | exact hM.sl 1 rfl | exact hM.sl 2 rfl | exact hM.sl 3 rfl | exact hM.sl 4 rfl | exact hM.sl 5 rfl | exact hM.sl 6 rfl | exact hM.arg0 (by assumption) | exact hM.arg (by assumption) (by assumption) | assumption) ?_ ?_ ?_ rfl ?_
          | refine E.appendM 4 hM rfl rfl rfl Try.underlying22 elem_Tbool (by first | exact hM.sl 0 rfl | exact hM.sl 1 rfl | exact hM.sl 2 rfl | exact hM.sl 3 rfl | exact hM.sl 4 rfl | exact hM.sl 5 rfl | exact hM.sl 6 rfl | exact hM.arg0 (by assumption) | exact hM.arg (by assumption) (by assumption) | assumption) ?_ ?_ ?_ rfl ?_
          | refine E.appendM 5 hM rfl rfl rfl Try.underlying22 elem_Tbool (by first | exact hM.sl 0 rfl | exact hM.sl 1 rfl | exact hM.sl 2 rfl | exact hM.sl 3 rfl | exact hM.sl 4 rfl | exact hM.sl 5 rfl | exact hM.sl 6 rfl | exact hM.arg0 (by assumption) | exact hM.arg (by assumption) (by assumption) | assumption) ?_ ?_ ?_ rfl ?_
          | refine E.appendM 6 hM rfl rfl rfl Try.underlying22 elem_Tbool (by first | exact hM.sl 0 rfl | exact hM.sl 1 rfl | exact hM.sl 2 rfl | exact hM.sl 3 rfl | exact hM.sl 4 rfl | exact hM.sl 5 rfl | exact hM.sl 6 rfl | exact hM.arg0 (by assumption) | exact hM.arg (by assumption) (by assumption) | assumption) ?_ ?_ ?_ rfl ?_
        · exact fun _ => rfl
        · exact (by first | omega | (simp only [List.length_replicate, List.length_append, List.length_set, List.length_cons, List.length_nil, List.length_map, List.length_range, List.length_take, List.length_drop, List.length_zipWith] at *; omega))
        · exact (by first | omega | (simp only [List.length_replicate, List.length_append, List.length_set, List.length_cons, List.length_nil, List.length_map, List.length_range, List.length_take, List.length_drop, List.length_zipWith] at *; omega))
        intro v21 w13 hM
        try dsimp only [List.nil_append, List.cons_append, List.set_cons_zero, List.set_cons_succ, repl] at hM
        have hS := hM.pick [0, 1] (by decide)
        refine H.back hS ?_
        first
          | obtain ⟨p21, c21, rfl⟩ := (hM.sl 2 rfl).shape
          | obtain ⟨p21, c21, rfl⟩ := (hM.sl 3 rfl).shape
        refine H.take 8 rfl rfl (by kernel_rfl) (by kernel_rfl) (by kernel_rfl) hS (fun w' hM => Y.buildC (cs := [_, _, _]) [.int .i64 0, .int .i64 0, .slice none 0 0] [0, 1, 2] rfl rfl (by kernel_rfl)) rfl ?_
        refine H.only 10 rfl (by kernel_rfl) ?_
        first
          | refine E.storeAM 0 hM rfl rfl rfl (by kernel_rfl) rfl ?_ ?_
          | refine E.storeAM 1 hM rfl rfl rfl (by kernel_rfl) rfl ?_ ?_
          | refine E.storeAM 2 hM rfl rfl rfl (by kernel_rfl) rfl ?_ ?_
          | refine E.storeAM 3 hM rfl rfl rfl (by kernel_rfl) rfl ?_ ?_
          | refine E.storeAM 4 hM rfl rfl rfl (by kernel_rfl) rfl ?_ ?_
          | refine E.storeAM 5 hM rfl rfl rfl (by kernel_rfl) rfl ?_ ?_
          | refine E.storeAM 6 hM rfl rfl rfl (by kernel_rfl) rfl ?_ ?_
        · exact ones (by first | rfl | exact (hM.sl 0 rfl).one | exact (hM.sl 1 rfl).one | exact (hM.sl 2 rfl).one | exact (hM.sl 3 rfl).one | exact (hM.sl 4 rfl).one | exact (hM.sl 5 rfl).one | exact (hM.sl 6 rfl).one | exact (hM.slF 0 rfl).one | exact (hM.slF 1 rfl).one | exact (hM.slF 2 rfl).one | exact (hM.slF 3 rfl).one | exact (hM.slF 4 rfl).one | exact (hM.slF 5 rfl).one | exact (hM.slF 6 rfl).one | exact RdL.one (by assumption) | exact RdF.one (by assumption) | assumption) <| ones (by first | rfl | exact (hM.sl 0 rfl).one | exact (hM.sl 1 rfl).one | exact (hM.sl 2 rfl).one | exact (hM.sl 3 rfl).one | exact (hM.sl 4 rfl).one | exact (hM.sl 5 rfl).one | exact (hM.sl 6 rfl).one | exact (hM.slF 0 rfl).one | exact (hM.slF 1 rfl).one | exact (hM.slF 2 rfl).one | exact (hM.slF 3 rfl).one | exact (hM.slF 4 rfl).one | exact (hM.slF 5 rfl).one | exact (hM.slF 6 rfl).one | exact RdL.one (by assumption) | exact RdF.one (by assumption) | assumption) <| ones (by first | rfl | exact (hM.sl 0 rfl).one | exact (hM.sl 1 rfl).one | exact (hM.sl 2 rfl).one | exact (hM.sl 3 rfl).one | exact (hM.sl 4 rfl).one | exact (hM.sl 5 rfl).one | exact (hM.sl 6 rfl).one | exact (hM.slF 0 rfl).one | exact (hM.slF 1 rfl).one | exact (hM.slF 2 rfl).one | exact (hM.slF 3 rfl).one | exact (hM.slF 4 rfl).one | exact (hM.slF 5 rfl).one | exact (hM.slF 6 rfl).one | exact RdL.one (by assumption) | exact RdF.one (by assumption) | assumption) <| ones_nil
        intro w14 hM
        try dsimp only [List.nil_append, List.cons_append, List.set_cons_zero, List.set_cons_succ, repl] at hM
        have hS := hM.pick [0, 1] (by decide)
        refine H.back hS ?_
        refine H.done (by kernel_rfl) ?_

        refine X.join2 _ _ (Sub.cons rfl <| Sub.nil _) rfl (hM.pick [0, 1, 2, 3] (by decide))
    rintro b6 vo w15 hM
    refine C.seq <| C.seq <| C.region <| E.asg rfl rfl <| E.nil <| X.next <| C.block <| ?_

    refine C.loop5 [(1, _), (2, _), (4, _), (6, _)] rfl (fun (k : Nat) (c : Nat) (d : Nat) (vo : Value) (l : (List Bool)) => [(7, i64 k)]) (fun (k : Nat) (c : Nat) (d : Nat) (vo : Value) (l : (List Bool)) w' => M w (Nn) w' [Rg.blk b2 24 [i64 a, i64 b, vd], Rg.blk b4 24 [.int .i64 0, .int .i64 0, .slice none 0 0], Rg.blk b6 24 [i64 c, i64 d, vo], Rg.sl Value.bool 4 vo l] ∧ okMat (c : Int) (d : Int) l.length ∧ Sy a b dk c d l) (fun (k : Nat) (c : Nat) (d : Nat) (vo : Value) (l : (List Bool)) => 4 - k) 0 a b vo dk ?_ ?_ ?_
    · exact Sub.cons rfl <| Sub.nil _
    · exact ⟨hM, hok, Sy.refl _ _ _⟩
    rintro k c d vo l w16 ⟨hM, hok', hsy⟩
    refine C.seq <| C.seq <| C.region <| E.mv rfl rfl <| E.mv rfl rfl <| ?_
    refine E.call rfl rfl (quarters_ret x _) ?_
    rintro _ w2 ⟨rfl, x2⟩
    have hM := hM.ext x2
    have hq := quart_lt x
    try dsimp only [List.nil_append, List.cons_append, List.set_cons_zero, List.set_cons_succ, repl] at hM
    refine E.bin rfl rfl rfl rfl <| E.nil <| X.next <| ?_
    refine C.cond' rfl (fun hC1 => ?_) (fun hC1 => ?_)
    ·
      obtain ⟨c0, d0, ec, ed, hcW, hcH, hcn, hcn0⟩ := hok'.nat
      obtain rfl : c = c0 := by omega
      obtain rfl : d = d0 := by omega
      have hsl := hsy.len
      refine C.skip <| X.next <| C.seq <| C.block <| C.seq <| C.region <| ?_
      refine E.fld (o := 1) (sz := 0) rfl Try.underlying24 rfl rfl (by kernel_rfl) rfl ?_
      refine E.load rfl Try.underlying3 rfl (by first | exact hM.bcell 0 rfl rfl | exact hM.bcell 1 rfl rfl | exact hM.bcell 2 rfl rfl | exact hM.bcell 3 rfl rfl | exact hM.bcell 4 rfl rfl | exact hM.bcell 5 rfl rfl | exact hM.bcell 6 rfl rfl) rfl ?_
      refine E.fld (o := 0) (sz := 0) rfl Try.underlying24 rfl rfl (by kernel_rfl) rfl ?_
      refine E.load rfl Try.underlying3 rfl (by first | exact hM.bcell 0 rfl rfl | exact hM.bcell 1 rfl rfl | exact hM.bcell 2 rfl rfl | exact hM.bcell 3 rfl rfl | exact hM.bcell 4 rfl rfl | exact hM.bcell 5 rfl rfl | exact hM.bcell 6 rfl rfl) rfl ?_
      refine E.buildC (cs := [_, _, _]) [.int .i64 0, .int .i64 0, .slice none 0 0] [0, 1] rfl rfl (by kernel_rfl) rfl ?_
      refine E.allocM (z := .agg #[.int .i64 0, .int .i64 0, .slice none 0 0]) (cs := [.int .i64 0, .int .i64 0, .slice none 0 0]) hM (by kernel_rfl) rfl rfl ?_
      intro b8 w18 hM
      try dsimp only [List.nil_append, List.cons_append, List.set_cons_zero, List.set_cons_succ, repl] at hM
      first
        | refine E.storeAM 0 hM rfl rfl rfl (by kernel_rfl) rfl ?_ ?_
        | refine E.storeAM 1 hM rfl rfl rfl (by kernel_rfl) rfl ?_ ?_
        | refine E.storeAM 2 hM rfl rfl rfl (by kernel_rfl) rfl ?_ ?_
        | refine E.storeAM 3 hM rfl rfl rfl (by kernel_rfl) rfl ?_ ?_
        | refine E.storeAM 4 hM rfl rfl rfl (by kernel_rfl) rfl ?_ ?_
        | refine E.storeAM 5 hM rfl rfl rfl (by kernel_rfl) rfl ?_ ?_
        | refine E.storeAM 6 hM rfl rfl rfl (by kernel_rfl) rfl ?_ ?_
      · exact ones (by first | rfl | exact (hM.sl 0 rfl).one | exact (hM.sl 1 rfl).one | exact (hM.sl 2 rfl).one | exact (hM.sl 3 rfl).one | exact (hM.sl 4 rfl).one | exact (hM.sl 5 rfl).one | exact (hM.sl 6 rfl).one | exact (hM.slF 0 rfl).one | exact (hM.slF 1 rfl).one | exact (hM.slF 2 rfl).one | exact (hM.slF 3 rfl).one | exact (hM.slF 4 rfl).one | exact (hM.slF 5 rfl).one | exact (hM.slF 6 rfl).one | exact RdL.one (by assumption) | exact RdF.one (by assumption) | assumption) <| ones (by first | rfl | exact (hM.sl 0 rfl).one | exact (hM.sl 1 rfl).one | exact (hM.sl 2 rfl).one | exact (hM.sl 3 rfl).one | exact (hM.sl 4 rfl).one | exact (hM.sl 5 rfl).one | exact (hM.sl 6 rfl).one | exact (hM.slF 0 rfl).one | exact (hM.slF 1 rfl).one | exact (hM.slF 2 rfl).one | exact (hM.slF 3 rfl).one | exact (hM.slF 4 rfl).one | exact (hM.slF 5 rfl).one | exact (hM.slF 6 rfl).one | exact RdL.one (by assumption) | exact RdF.one (by assumption) | assumption) <| ones (by first | rfl | exact (hM.sl 0 rfl).one | exact (hM.sl 1 rfl).one | exact (hM.sl 2 rfl).one | exact (hM.sl 3 rfl).one | exact (hM.sl 4 rfl).one | exact (hM.sl 5 rfl).one | exact (hM.sl 6 rfl).one | exact (hM.slF 0 rfl).one | exact (hM.slF 1 rfl).one | exact (hM.slF 2 rfl).one | exact (hM.slF 3 rfl).one | exact (hM.slF 4 rfl).one | exact (hM.slF 5 rfl).one | exact (hM.slF 6 rfl).one | exact RdL.one (by assumption) | exact RdF.one (by assumption) | assumption) <| ones_nil
      intro w19 hM
      try dsimp only [List.nil_append, List.cons_append, List.set_cons_zero, List.set_cons_succ, repl] at hM
      refine E.nil <| X.next <| C.seq <| C.seq <| C.region <| E.asg rfl rfl <| E.nil <| X.next <| C.block <| ?_
      have hM := hM.nil Value.bool 4
      try dsimp only [List.nil_append, List.cons_append] at hM

      refine C.loop2 [(1, _), (2, _), (4, _), (6, _), (7, _), (8, _)] rfl (fun (i : Nat) (vn : Value) => [(9, i64 i)]) (fun (i : Nat) (vn : Value) w' => M w (Nn) w' [Rg.blk b2 24 [i64 a, i64 b, vd], Rg.blk b4 24 [.int .i64 0, .int .i64 0, .slice none 0 0], Rg.blk b6 24 [i64 c, i64 d, vo], Rg.sl Value.bool 4 vo l, Rg.blk b8 24 [i64 d, i64 c, vn], Rg.sl Value.bool 4 vn (tab i (tnf c d l))] ∧ i ≤ dk.length) (fun (i : Nat) (vn : Value) => dk.length - i) 0 nilS ?_ ?_ ?_
      · exact Sub.cons rfl <| Sub.nil _
      · exact ⟨hM, Nat.zero_le _⟩
      rintro i vn w20 ⟨hM, hi⟩
      refine C.seq <| C.seq <| C.region <| E.mv rfl rfl <| ?_
      refine E.fld (o := 2) (sz := 0) rfl Try.underlying24 rfl rfl (by kernel_rfl) rfl ?_
      refine E.load rfl Try.underlying22 rfl (by first | exact hM.bcell 0 rfl rfl | exact hM.bcell 1 rfl rfl | exact hM.bcell 2 rfl rfl | exact hM.bcell 3 rfl rfl | exact hM.bcell 4 rfl rfl | exact hM.bcell 5 rfl rfl | exact hM.bcell 6 rfl rfl) rfl ?_
      refine E.lenv rfl (Rd.shape (by first | exact hM.sl 0 rfl | exact hM.sl 1 rfl | exact hM.sl 2 rfl | exact hM.sl 3 rfl | exact hM.sl 4 rfl | exact hM.sl 5 rfl | exact hM.sl 6 rfl | exact hM.arg0 (by assumption) | exact hM.arg (by assumption) (by assumption) | assumption)) Try.underlying22 rfl ?_
      refine E.bin rfl rfl rfl rfl <| E.nil <| X.next <| ?_
      refine C.cond' rfl (fun hC2 => ?_) (fun hC2 => ?_)
      ·
        have hi' : i < dk.length := by omega
        have htl := tab_len i (tnf c d l)
        have htn := turnf_lt (a := c) (b := d) (i := i) (by omega) (by omega) (by omega)
        refine C.skip <| X.next <| C.seq <| C.block <| C.heldM hM [0, 1, 2, 3] (by decide) (by kernel_rfl) fun wh21 hM hS => ?_
        refine H.takeV 0 rfl rfl (by kernel_rfl) (by kernel_rfl) (by kernel_rfl) hS (Y.fld (o := 2) (sz := 0) rfl Try.underlying24 rfl rfl (by kernel_rfl)) (fun w' hM => Y.fld (o := 2) (sz := 0) rfl Try.underlying24 rfl rfl (by kernel_rfl)) rfl ?_
        refine H.takeV 2 rfl rfl (by kernel_rfl) (by kernel_rfl) (by kernel_rfl) hS (Y.fld (o := 2) (sz := 0) rfl Try.underlying24 rfl rfl (by kernel_rfl)) (fun w' hM => Y.fld (o := 2) (sz := 0) rfl Try.underlying24 rfl rfl (by kernel_rfl)) rfl ?_
        refine H.takeV 4 rfl rfl (by kernel_rfl) (by kernel_rfl) (by kernel_rfl) hS (Y.fld (o := 0) (sz := 0) rfl Try.underlying24 rfl rfl (by kernel_rfl)) (fun w' hM => Y.fld (o := 0) (sz := 0) rfl Try.underlying24 rfl rfl (by kernel_rfl)) rfl ?_
        refine H.takeV 6 rfl rfl (by kernel_rfl) (by kernel_rfl) (by kernel_rfl) hS (Y.fld (o := 1) (sz := 0) rfl Try.underlying24 rfl rfl (by kernel_rfl)) (fun w' hM => Y.fld (o := 1) (sz := 0) rfl Try.underlying24 rfl rfl (by kernel_rfl)) rfl ?_
        refine H.take 8 rfl rfl (by kernel_rfl) (by kernel_rfl) (by kernel_rfl) hS (fun w' hM => Y.mv rfl) rfl ?_
        refine H.takeV 3 rfl rfl (by kernel_rfl) (by kernel_rfl) (by kernel_rfl) hS (Y.load rfl Try.underlying22 rfl (by first | exact hS.bcell 0 rfl rfl | exact hS.bcell 1 rfl rfl | exact hS.bcell 2 rfl rfl | exact hS.bcell 3 rfl rfl | exact hS.bcell 4 rfl rfl | exact hS.bcell 5 rfl rfl | exact hS.bcell 6 rfl rfl)) (fun w' hM => Y.load rfl Try.underlying22 rfl (by first | exact hM.bcell 0 rfl rfl | exact hM.bcell 1 rfl rfl | exact hM.bcell 2 rfl rfl | exact hM.bcell 3 rfl rfl | exact hM.bcell 4 rfl rfl | exact hM.bcell 5 rfl rfl | exact hM.bcell 6 rfl rfl)) rfl ?_
        refine H.takeV 5 rfl rfl (by kernel_rfl) (by kernel_rfl) (by kernel_rfl) hS (Y.load rfl Try.underlying3 rfl (by first | exact hS.bcell 0 rfl rfl | exact hS.bcell 1 rfl rfl | exact hS.bcell 2 rfl rfl | exact hS.bcell 3 rfl rfl | exact hS.bcell 4 rfl rfl | exact hS.bcell 5 rfl rfl | exact hS.bcell 6 rfl rfl)) (fun w' hM => Y.load rfl Try.underlying3 rfl (by first | exact hM.bcell 0 rfl rfl | exact hM.bcell 1 rfl rfl | exact hM.bcell 2 rfl rfl | exact hM.bcell 3 rfl rfl | exact hM.bcell 4 rfl rfl | exact hM.bcell 5 rfl rfl | exact hM.bcell 6 rfl rfl)) rfl ?_
        refine H.takeV 7 rfl rfl (by kernel_rfl) (by kernel_rfl) (by kernel_rfl) hS (Y.load rfl Try.underlying3 rfl (by first | exact hS.bcell 0 rfl rfl | exact hS.bcell 1 rfl rfl | exact hS.bcell 2 rfl rfl | exact hS.bcell 3 rfl rfl | exact hS.bcell 4 rfl rfl | exact hS.bcell 5 rfl rfl | exact hS.bcell 6 rfl rfl)) (fun w' hM => Y.load rfl Try.underlying3 rfl (by first | exact hM.bcell 0 rfl rfl | exact hM.bcell 1 rfl rfl | exact hM.bcell 2 rfl rfl | exact hM.bcell 3 rfl rfl | exact hM.bcell 4 rfl rfl | exact hM.bcell 5 rfl rfl | exact hM.bcell 6 rfl rfl)) rfl ?_
        refine H.two 1 9 rfl rfl (by kernel_rfl) ?_ ?_
        ·
          refine E.load rfl Try.underlying22 rfl (by first | exact hM.bcell 0 rfl rfl | exact hM.bcell 1 rfl rfl | exact hM.bcell 2 rfl rfl | exact hM.bcell 3 rfl rfl | exact hM.bcell 4 rfl rfl | exact hM.bcell 5 rfl rfl | exact hM.bcell 6 rfl rfl) rfl ?_
          have hS := hM.pick [0, 1, 2, 3] (by decide)
          refine H.back hS ?_
          refine H.only 9 rfl (by kernel_rfl) ?_
          refine E.call rfl rfl (turned_ret c d i _ (by omega) (by omega) (by omega) (by omega) (by omega)) ?_
          rintro _ w3 ⟨rfl, x3⟩
          have hM := hM.ext x3
          try dsimp only [List.nil_append, List.cons_append, List.set_cons_zero, List.set_cons_succ, repl] at hM
          have hS := hM.pick [0, 1, 2, 3] (by decide)
          refine H.back hS ?_
          refine H.takeV 10 rfl rfl (by kernel_rfl) (by kernel_rfl) (by kernel_rfl) hS (Y.idx1 (k := _) rfl rfl (by first | exact hS.sl 0 rfl | exact hS.sl 1 rfl | exact hS.sl 2 rfl | exact hS.sl 3 rfl | exact hS.sl 4 rfl | exact hS.sl 5 rfl | exact hS.sl 6 rfl | exact hS.arg0 (by assumption) | exact hS.arg (by assumption) (by assumption) | assumption) rfl (by first | omega | (simp only [List.length_replicate, List.length_append, List.length_set, List.length_cons, List.length_nil, List.length_map, List.length_range, List.length_take, List.length_drop, List.length_zipWith] at *; omega)) Try.underlying22 (by kernel_rfl)) (fun w' hM => Y.idx1 (k := _) rfl rfl (by first | exact hM.sl 0 rfl | exact hM.sl 1 rfl | exact hM.sl 2 rfl | exact hM.sl 3 rfl | exact hM.sl 4 rfl | exact hM.sl 5 rfl | exact hM.sl 6 rfl | exact hM.arg0 (by assumption) | exact hM.arg (by assumption) (by assumption) | assumption) rfl (by first | omega | (simp only [List.length_replicate, List.length_append, List.length_set, List.length_cons, List.length_nil, List.length_map, List.length_range, List.length_take, List.length_drop, List.length_zipWith] at *; omega)) Try.underlying22 (by kernel_rfl)) rfl ?_
          refine H.only 11 rfl (by kernel_rfl) ?_
          refine E.load rfl Try.underlying4 rfl (by first | exact (hM.sl 0 rfl).cellA rfl (by first | omega | (simp only [List.length_replicate, List.length_append, List.length_set, List.length_cons, List.length_nil, List.length_map, List.length_range, List.length_take, List.length_drop, List.length_zipWith] at *; omega)) | exact (hM.sl 1 rfl).cellA rfl (by first | omega | (simp only [List.length_replicate, List.length_append, List.length_set, List.length_cons, List.length_nil, List.length_map, List.length_range, List.length_take, List.length_drop, List.length_zipWith] at *; omega)) | exact (hM.sl 2 rfl).cellA rfl (by first | omega | (simp only [List.length_replicate, List.length_append, List.length_set, List.length_cons, List.length_nil, List.length_map, List.length_range, List.length_take, List.length_drop, List.length_zipWith] at *; omega)) | exact (hM.sl 3 rfl).cellA rfl (by first | omega | (simp only [List.length_replicate, List.length_append, List.length_set, List.length_cons, List.length_nil, List.length_map, List.length_range, List.length_take, List.length_drop, List.length_zipWith] at *; omega)) | exact (hM.sl 4 rfl).cellA rfl (by first | omega | (simp only [List.length_replicate, List.length_append, List.length_set, List.length_cons, List.length_nil, List.length_map, List.length_range, List.length_take, List.length_drop, List.length_zipWith] at *; omega)) | exact (hM.sl 5 rfl).cellA rfl (by first | omega | (simp only [List.length_replicate, List.length_append, List.length_set, List.length_cons, List.length_nil, List.length_map, List.length_range, List.length_take, List.length_drop, List.length_zipWith] at *; omega)) | exact (hM.sl 6 rfl).cellA rfl (by first | omega | (simp only [List.length_replicate, List.length_append, List.length_set, List.length_cons, List.length_nil, List.length_map, List.length_range, List.length_take, List.length_drop, List.length_zipWith] at *; omega)) | exact (hM.arg0 (by assumption)).cellA rfl (by first | omega | (simp only [List.length_replicate, List.length_append, List.length_set, List.length_cons, List.length_nil, List.length_map, List.length_range, List.length_take, List.length_drop, List.length_zipWith] at *; omega)) | exact (hM.arg (by assumption) (by assumption)).cellA rfl (by first | omega | (simp only [List.length_replicate, List.length_append, List.length_set, List.length_cons, List.length_nil, List.length_map, List.length_range, List.length_take, List.length_drop, List.length_zipWith] at *; omega))) rfl ?_
          rw [show l[turnf c d i] = tnf c d l i from by rw [tnf, List.getD_eq_getElem?_getD, List.getElem?_eq_getElem (by omega)]; rfl]
          have hS := hM.pick [0, 1, 2, 3] (by decide)
          refine H.back hS ?_
          refine H.only 12 rfl (by kernel_rfl) ?_
          refine E.mk1M (enc := Value.bool) _ hM rfl Try.underlying22 elem_Tbool rfl rfl ?_
          intro v53 w23 hM
          try dsimp only [List.nil_append, List.cons_append, List.set_cons_zero, List.set_cons_succ, repl] at hM
          have hS := hM.pick [0, 1, 2, 3] (by decide)
          refine H.back hS ?_
          refine H.only 13 rfl (by kernel_rfl) ?_
          first
            | refine E.appendM 0 hM rfl rfl rfl Try.underlying22 elem_Tbool (by first | exact hM.sl 0 rfl | exact hM.sl 1 rfl | exact hM.sl 2 rfl | exact hM.sl 3 rfl | exact hM.sl 4 rfl | exact hM.sl 5 rfl | exact hM.sl 6 rfl | exact hM.arg0 (by assumption) | exact hM.arg (by assumption) (by assumption) | assumption) ?_ ?_ ?_ rfl ?_
            | refine E.appendM 1 hM rfl rfl rfl Try.underlying22 elem_Tbool (by first | exact hM.sl 0 rfl | exact hM.sl 1 rfl | exact hM.sl 2 rfl | exact hM.sl 3 rfl | exact hM.sl 4 rfl | exact hM.sl 5 rfl | exact hM.sl 6 rfl | exact hM.arg0 (by assumption) | exact hM.arg (by assumption) (by assumption) | assumption) ?_ ?_ ?_ rfl ?_
            | refine E.appendM 2 hM rfl rfl rfl Try.underlying22 elem_Tbool (by first | exact hM.sl 0 rfl | exact hM.sl 1 rfl | exact hM.sl 2 rfl | exact hM.sl 3 rfl | exact hM.sl 4 rfl | exact hM.sl 5 rfl | exact hM.sl 6 rfl | exact hM.arg0 (by assumption) | exact hM.arg (by assumption) (by assumption) | assumption) ?_ ?_ ?_ rfl ?_
            | refine E.appendM 3 hM rfl rfl rfl Try.underlying22 elem_Tbool (by first | exact hM.sl 0 rfl | exact hM.sl 1 rfl | exact hM.sl 2 rfl | exact hM.sl 3 rfl | exact hM.sl 4 rfl | exact hM.sl 5 rfl | exact hM.sl 6 rfl | exact hM.arg0 (by assumption) | exact hM.arg (by assumption) (by assumption) | assumption) ?_ ?_ ?_ rfl ?_
            | refine E.appendM 4 hM rfl rfl rfl Try.underlying22 elem_Tbool (by first | exact hM.sl 0 rfl | exact hM.sl 1 rfl | exact hM.sl 2 rfl | exact hM.sl 3 rfl | exact hM.sl 4 rfl | exact hM.sl 5 rfl | exact hM.sl 6 rfl | exact hM.arg0 (by assumption) | exact hM.arg (by assumption) (by assumption) | assumption) ?_ ?_ ?_ rfl ?_
            | refine E.appendM 5 hM rfl rfl rfl Try.underlying22 elem_Tbool (by first | exact hM.sl 0 rfl | exact hM.sl 1 rfl | exact hM.sl 2 rfl | exact hM.sl 3 rfl | exact hM.sl 4 rfl | exact hM.sl 5 rfl | exact hM.sl 6 rfl | exact hM.arg0 (by assumption) | exact hM.arg (by assumption) (by assumption) | assumption) ?_ ?_ ?_ rfl ?_
            | refine E.appendM 6 hM rfl rfl rfl Try.underlying22 elem_Tbool (by first | exact hM.sl 0 rfl | exact hM.sl 1 rfl | exact hM.sl 2 rfl | exact hM.sl 3 rfl | exact hM.sl 4 rfl | exact hM.sl 5 rfl | exact hM.sl 6 rfl | exact hM.arg0 (by assumption) | exact hM.arg (by assumption) (by assumption) | assumption) ?_ ?_ ?_ rfl ?_
          · exact fun _ => rfl
          · exact (by first | omega | (simp only [List.length_replicate, List.length_append, List.length_set, List.length_cons, List.length_nil, List.length_map, List.length_range, List.length_take, List.length_drop, List.length_zipWith] at *; omega))
          · exact (by first | omega | (simp only [List.length_replicate, List.length_append, List.length_set, List.length_cons, List.length_nil, List.length_map, List.length_range, List.length_take, List.length_drop, List.length_zipWith] at *; omega))
          intro v54 w24 hM
          try dsimp only [List.nil_append, List.cons_append, List.set_cons_zero, List.set_cons_succ, repl] at hM
          have hS := hM.pick [0, 1, 2, 3] (by decide)
          refine H.back hS ?_
          refine H.takeV 14 rfl rfl (by kernel_rfl) (by kernel_rfl) (by kernel_rfl) hS (Y.fld (o := 2) (sz := 0) rfl Try.underlying24 rfl rfl (by kernel_rfl)) (fun w' hM => Y.fld (o := 2) (sz := 0) rfl Try.underlying24 rfl rfl (by kernel_rfl)) rfl ?_
          refine H.only 15 rfl (by kernel_rfl) ?_
          first
            | refine E.storeM 0 hM rfl rfl rfl (by kernel_rfl) ?_ rfl ?_
            | refine E.storeM 1 hM rfl rfl rfl (by kernel_rfl) ?_ rfl ?_
            | refine E.storeM 2 hM rfl rfl rfl (by kernel_rfl) ?_ rfl ?_
            | refine E.storeM 3 hM rfl rfl rfl (by kernel_rfl) ?_ rfl ?_
            | refine E.storeM 4 hM rfl rfl rfl (by kernel_rfl) ?_ rfl ?_
            | refine E.storeM 5 hM rfl rfl rfl (by kernel_rfl) ?_ rfl ?_
            | refine E.storeM 6 hM rfl rfl rfl (by kernel_rfl) ?_ rfl ?_
          · exact (by first | rfl | exact (hM.sl 0 rfl).one | exact (hM.sl 1 rfl).one | exact (hM.sl 2 rfl).one | exact (hM.sl 3 rfl).one | exact (hM.sl 4 rfl).one | exact (hM.sl 5 rfl).one | exact (hM.sl 6 rfl).one | exact (hM.slF 0 rfl).one | exact (hM.slF 1 rfl).one | exact (hM.slF 2 rfl).one | exact (hM.slF 3 rfl).one | exact (hM.slF 4 rfl).one | exact (hM.slF 5 rfl).one | exact (hM.slF 6 rfl).one | exact RdL.one (by assumption) | exact RdF.one (by assumption) | assumption)
          intro w25 hM
          try dsimp only [List.nil_append, List.cons_append, List.set_cons_zero, List.set_cons_succ, repl] at hM
          have hS := hM.pick [0, 1, 2, 3] (by decide)
          refine H.back hS ?_
          refine H.done (by kernel_rfl) ?_
          refine X.outN <| X.next <| C.region <| E.mv rfl rfl <| ?_
          refine E.add rfl rfl (by omega) rfl ?_

          refine E.asg rfl rfl <| E.nil <| X.again2 (i + 1) _ (Sub.cons rfl <| Sub.nil _) rfl ⟨by rw [tab_succ]; exact hM.pick [0, 1, 2, 3, 4, 5] (by decide), by omega⟩ (by omega)
        ·
          refine E.call rfl rfl (turned_ret c d i _ (by omega) (by omega) (by omega) (by omega) (by omega)) ?_
          rintro _ w3 ⟨rfl, x3⟩
          have hM := hM.ext x3
          try dsimp only [List.nil_append, List.cons_append, List.set_cons_zero, List.set_cons_succ, repl] at hM
          have hS := hM.pick [0, 1, 2, 3] (by decide)
          refine H.back hS ?_
          refine H.takeV 10 rfl rfl (by kernel_rfl) (by kernel_rfl) (by kernel_rfl) hS (Y.idx1 (k := _) rfl rfl (by first | exact hS.sl 0 rfl | exact hS.sl 1 rfl | exact hS.sl 2 rfl | exact hS.sl 3 rfl | exact hS.sl 4 rfl | exact hS.sl 5 rfl | exact hS.sl 6 rfl | exact hS.arg0 (by assumption) | exact hS.arg (by assumption) (by assumption) | assumption) rfl (by first | omega | (simp only [List.length_replicate, List.length_append, List.length_set, List.length_cons, List.length_nil, List.length_map, List.length_range, List.length_take, List.length_drop, List.length_zipWith] at *; omega)) Try.underlying22 (by kernel_rfl)) (fun w' hM => Y.idx1 (k := _) rfl rfl (by first | exact hM.sl 0 rfl | exact hM.sl 1 rfl | exact hM.sl 2 rfl | exact hM.sl 3 rfl | exact hM.sl 4 rfl | exact hM.sl 5 rfl | exact hM.sl 6 rfl | exact hM.arg0 (by assumption) | exact hM.arg (by assumption) (by assumption) | assumption) rfl (by first | omega | (simp only [List.length_replicate, List.length_append, List.length_set, List.length_cons, List.length_nil, List.length_map, List.length_range, List.length_take, List.length_drop, List.length_zipWith] at *; omega)) Try.underlying22 (by kernel_rfl)) rfl ?_
          refine H.takeV 11 rfl rfl (by kernel_rfl) (by kernel_rfl) (by kernel_rfl) hS (Y.load rfl Try.underlying4 rfl (by first | exact (hS.sl 0 rfl).cellA rfl (by first | omega | (simp only [List.length_replicate, List.length_append, List.length_set, List.length_cons, List.length_nil, List.length_map, List.length_range, List.length_take, List.length_drop, List.length_zipWith] at *; omega)) | exact (hS.sl 1 rfl).cellA rfl (by first | omega | (simp only [List.length_replicate, List.length_append, List.length_set, List.length_cons, List.length_nil, List.length_map, List.length_range, List.length_take, List.length_drop, List.length_zipWith] at *; omega)) | exact (hS.sl 2 rfl).cellA rfl (by first | omega | (simp only [List.length_replicate, List.length_append, List.length_set, List.length_cons, List.length_nil, List.length_map, List.length_range, List.length_take, List.length_drop, List.length_zipWith] at *; omega)) | exact (hS.sl 3 rfl).cellA rfl (by first | omega | (simp only [List.length_replicate, List.length_append, List.length_set, List.length_cons, List.length_nil, List.length_map, List.length_range, List.length_take, List.length_drop, List.length_zipWith] at *; omega)) | exact (hS.sl 4 rfl).cellA rfl (by first | omega | (simp only [List.length_replicate, List.length_append, List.length_set, List.length_cons, List.length_nil, List.length_map, List.length_range, List.length_take, List.length_drop, List.length_zipWith] at *; omega)) | exact (hS.sl 5 rfl).cellA rfl (by first | omega | (simp only [List.length_replicate, List.length_append, List.length_set, List.length_cons, List.length_nil, List.length_map, List.length_range, List.length_take, List.length_drop, List.length_zipWith] at *; omega)) | exact (hS.sl 6 rfl).cellA rfl (by first | omega | (simp only [List.length_replicate, List.length_append, List.length_set, List.length_cons, List.length_nil, List.length_map, List.length_range, List.length_take, List.length_drop, List.length_zipWith] at *; omega)) | exact (hS.arg0 (by assumption)).cellA rfl (by first | omega | (simp only [List.length_replicate, List.length_append, List.length_set, List.length_cons, List.length_nil, List.length_map, List.length_range, List.length_take, List.length_drop, List.length_zipWith] at *; omega)) | exact (hS.arg (by assumption) (by assumption)).cellA rfl (by first | omega | (simp only [List.length_replicate, List.length_append, List.length_set, List.length_cons, List.length_nil, List.length_map, List.length_range, List.length_take, List.length_drop, List.length_zipWith] at *; omega)))) (fun w' hM => Y.load rfl Try.underlying4 rfl (by first | exact (hM.sl 0 rfl).cellA rfl (by first | omega | (simp only [List.length_replicate, List.length_append, List.length_set, List.length_cons, List.length_nil, List.length_map, List.length_range, List.length_take, List.length_drop, List.length_zipWith] at *; omega)) | exact (hM.sl 1 rfl).cellA rfl (by first | omega | (simp only [List.length_replicate, List.length_append, List.length_set, List.length_cons, List.length_nil, List.length_map, List.length_range, List.length_take, List.length_drop, List.length_zipWith] at *; omega)) | exact (hM.sl 2 rfl).cellA rfl (by first | omega | (simp only [List.length_replicate, List.length_append, List.length_set, List.length_cons, List.length_nil, List.length_map, List.length_range, List.length_take, List.length_drop, List.length_zipWith] at *; omega)) | exact (hM.sl 3 rfl).cellA rfl (by first | omega | (simp only [List.length_replicate, List.length_append, List.length_set, List.length_cons, List.length_nil, List.length_map, List.length_range, List.length_take, List.length_drop, List.length_zipWith] at *; omega)) | exact (hM.sl 4 rfl).cellA rfl (by first | omega | (simp only [List.length_replicate, List.length_append, List.length_set, List.length_cons, List.length_nil, List.length_map, List.length_range, List.length_take, List.length_drop, List.length_zipWith] at *; omega)) | exact (hM.sl 5 rfl).cellA rfl (by first | omega | (simp only [List.length_replicate, List.length_append, List.length_set, List.length_cons, List.length_nil, List.length_map, List.length_range, List.length_take, List.length_drop, List.length_zipWith] at *; omega)) | exact (hM.sl 6 rfl).cellA rfl (by first | omega | (simp only [List.length_replicate, List.length_append, List.length_set, List.length_cons, List.length_nil, List.length_map, List.length_range, List.length_take, List.length_drop, List.length_zipWith] at *; omega)) | exact (hM.arg0 (by assumption)).cellA rfl (by first | omega | (simp only [List.length_replicate, List.length_append, List.length_set, List.length_cons, List.length_nil, List.length_map, List.length_range, List.length_take, List.length_drop, List.length_zipWith] at *; omega)) | exact (hM.arg (by assumption) (by assumption)).cellA rfl (by first | omega | (simp only [List.length_replicate, List.length_append, List.length_set, List.length_cons, List.length_nil, List.length_map, List.length_range, List.length_take, List.length_drop, List.length_zipWith] at *; omega)))) rfl ?_
          rw [show l[turnf c d i] = tnf c d l i from by rw [tnf, List.getD_eq_getElem?_getD, List.getElem?_eq_getElem (by omega)]; rfl]
          refine H.two 1 12 rfl rfl (by kernel_rfl) ?_ ?_
          ·
            refine E.load rfl Try.underlying22 rfl (by first | exact hM.bcell 0 rfl rfl | exact hM.bcell 1 rfl rfl | exact hM.bcell 2 rfl rfl | exact hM.bcell 3 rfl rfl | exact hM.bcell 4 rfl rfl | exact hM.bcell 5 rfl rfl | exact hM.bcell 6 rfl rfl) rfl ?_
            have hS := hM.pick [0, 1, 2, 3] (by decide)
            refine H.back hS ?_
            refine H.only 12 rfl (by kernel_rfl) ?_
            refine E.mk1M (enc := Value.bool) _ hM rfl Try.underlying22 elem_Tbool rfl rfl ?_
            intro v53 w27 hM
            try dsimp only [List.nil_append, List.cons_append, List.set_cons_zero, List.set_cons_succ, repl] at hM
            have hS := hM.pick [0, 1, 2, 3] (by decide)
            refine H.back hS ?_
            refine H.only 13 rfl (by kernel_rfl) ?_
            first
              | refine E.appendM 0 hM rfl rfl rfl Try.underlying22 elem_Tbool (by first | exact hM.sl 0 rfl | exact hM.sl 1 rfl | exact hM.sl 2 rfl | exact hM.sl 3 rfl | exact hM.sl 4 rfl | exact hM.sl 5 rfl | exact hM.sl 6 rfl | exact hM.arg0 (by assumption) | exact hM.arg (by assumption) (by assumption) | assumption) ?_ ?_ ?_ rfl ?_
              | refine E.appendM 1 hM rfl rfl rfl Try.underlying22 elem_Tbool (by first | exact hM.sl 0 rfl | exact hM.sl 1 rfl | exact hM.sl 2 rfl | exact hM.sl 3 rfl | exact hM.sl 4 rfl | exact hM.sl 5 rfl | exact hM.sl 6 rfl | exact hM.arg0 (by assumption) | exact hM.arg (by assumption) (by assumption) | assumption) ?_ ?_ ?_ rfl ?_
              | refine E.appendM 2 hM rfl rfl rfl Try.underlying22 elem_Tbool (by first | exact hM.sl 0 rfl | exact hM.sl 1 rfl | exact hM.sl 2 rfl | exact hM.sl 3 rfl | exact hM.sl 4 rfl | exact hM.sl 5 rfl | exact hM.sl 6 rfl | exact hM.arg0 (by assumption) | exact hM.arg (by assumption) (by assumption) | assumption) ?_ ?_ ?_ rfl ?_
              | refine E.appendM 3 hM rfl rfl rfl Try.underlying22 elem_Tbool (by first | exact hM.sl 0 rfl | exact hM.sl 1 rfl | exact hM.sl 2 rfl | exact hM.sl 3 rfl | exact hM.sl 4 rfl | exact hM.sl 5 rfl | exact hM.sl 6 rfl | exact hM.arg0 (by assumption) | exact hM.arg (by assumption) (by assumption) | assumption) ?_ ?_ ?_ rfl ?_
              | refine E.appendM 4 hM rfl rfl rfl Try.underlying22 elem_Tbool (by first | exact hM.sl 0 rfl | exact hM.sl 1 rfl | exact hM.sl 2 rfl | exact hM.sl 3 rfl | exact hM.sl 4 rfl | exact hM.sl 5 rfl | exact hM.sl 6 rfl | exact hM.arg0 (by assumption) | exact hM.arg (by assumption) (by assumption) | assumption) ?_ ?_ ?_ rfl ?_
              | refine E.appendM 5 hM rfl rfl rfl Try.underlying22 elem_Tbool (by first | exact hM.sl 0 rfl | exact hM.sl 1 rfl | exact hM.sl 2 rfl | exact hM.sl 3 rfl | exact hM.sl 4 rfl | exact hM.sl 5 rfl | exact hM.sl 6 rfl | exact hM.arg0 (by assumption) | exact hM.arg (by assumption) (by assumption) | assumption) ?_ ?_ ?_ rfl ?_
              | refine E.appendM 6 hM rfl rfl rfl Try.underlying22 elem_Tbool (by first | exact hM.sl 0 rfl | exact hM.sl 1 rfl | exact hM.sl 2 rfl | exact hM.sl 3 rfl | exact hM.sl 4 rfl | exact hM.sl 5 rfl | exact hM.sl 6 rfl | exact hM.arg0 (by assumption) | exact hM.arg (by assumption) (by assumption) | assumption) ?_ ?_ ?_ rfl ?_
            · exact fun _ => rfl
            · exact (by first | omega | (simp only [List.length_replicate, List.length_append, List.length_set, List.length_cons, List.length_nil, List.length_map, List.length_range, List.length_take, List.length_drop, List.length_zipWith] at *; omega))
            · exact (by first | omega | (simp only [List.length_replicate, List.length_append, List.length_set, List.length_cons, List.length_nil, List.length_map, List.length_range, List.length_take, List.length_drop, List.length_zipWith] at *; omega))
            intro v54 w28 hM
            try dsimp only [List.nil_append, List.cons_append, List.set_cons_zero, List.set_cons_succ, repl] at hM
            have hS := hM.pick [0, 1, 2, 3] (by decide)
            refine H.back hS ?_
            refine H.takeV 14 rfl rfl (by kernel_rfl) (by kernel_rfl) (by kernel_rfl) hS (Y.fld (o := 2) (sz := 0) rfl Try.underlying24 rfl rfl (by kernel_rfl)) (fun w' hM => Y.fld (o := 2) (sz := 0) rfl Try.underlying24 rfl rfl (by kernel_rfl)) rfl ?_
            refine H.only 15 rfl (by kernel_rfl) ?_
            first
              | refine E.storeM 0 hM rfl rfl rfl (by kernel_rfl) ?_ rfl ?_
              | refine E.storeM 1 hM rfl rfl rfl (by kernel_rfl) ?_ rfl ?_
              | refine E.storeM 2 hM rfl rfl rfl (by kernel_rfl) ?_ rfl ?_
              | refine E.storeM 3 hM rfl rfl rfl (by kernel_rfl) ?_ rfl ?_
              | refine E.storeM 4 hM rfl rfl rfl (by kernel_rfl) ?_ rfl ?_
              | refine E.storeM 5 hM rfl rfl rfl (by kernel_rfl) ?_ rfl ?_
              | refine E.storeM 6 hM rfl rfl rfl (by kernel_rfl) ?_ rfl ?_
            · exact (by first | rfl | exact (hM.sl 0 rfl).one | exact (hM.sl 1 rfl).one | exact (hM.sl 2 rfl).one | exact (hM.sl 3 rfl).one | exact (hM.sl 4 rfl).one | exact (hM.sl 5 rfl).one | exact (hM.sl 6 rfl).one | exact (hM.slF 0 rfl).one | exact (hM.slF 1 rfl).one | exact (hM.slF 2 rfl).one | exact (hM.slF 3 rfl).one | exact (hM.slF 4 rfl).one | exact (hM.slF 5 rfl).one | exact (hM.slF 6 rfl).one | exact RdL.one (by assumption) | exact RdF.one (by assumption) | assumption)
            intro w29 hM
            try dsimp only [List.nil_append, List.cons_append, List.set_cons_zero, List.set_cons_succ, repl] at hM
            have hS := hM.pick [0, 1, 2, 3] (by decide)
            refine H.back hS ?_
            refine H.done (by kernel_rfl) ?_
            refine X.outN <| X.next <| C.region <| E.mv rfl rfl <| ?_
            refine E.add rfl rfl (by omega) rfl ?_

            refine E.asg rfl rfl <| E.nil <| X.again2 (i + 1) _ (Sub.cons rfl <| Sub.nil _) rfl ⟨by rw [tab_succ]; exact hM.pick [0, 1, 2, 3, 4, 5] (by decide), by omega⟩ (by omega)
          ·
            refine E.mk1M (enc := Value.bool) _ hM rfl Try.underlying22 elem_Tbool rfl rfl ?_
            intro v53 w30 hM
            try dsimp only [List.nil_append, List.cons_append, List.set_cons_zero, List.set_cons_succ, repl] at hM
            have hS := hM.pick [0, 1, 2, 3] (by decide)
            refine H.back hS ?_
            refine H.only 1 rfl (by kernel_rfl) ?_
            refine E.load rfl Try.underlying22 rfl (by first | exact hM.bcell 0 rfl rfl | exact hM.bcell 1 rfl rfl | exact hM.bcell 2 rfl rfl | exact hM.bcell 3 rfl rfl | exact hM.bcell 4 rfl rfl | exact hM.bcell 5 rfl rfl | exact hM.bcell 6 rfl rfl) rfl ?_
            have hS := hM.pick [0, 1, 2, 3] (by decide)
            refine H.back hS ?_
            refine H.only 13 rfl (by kernel_rfl) ?_
            first
              | refine E.appendM 0 hM rfl rfl rfl Try.underlying22 elem_Tbool (by first | exact hM.sl 0 rfl | exact hM.sl 1 rfl | exact hM.sl 2 rfl | exact hM.sl 3 rfl | exact hM.sl 4 rfl | exact hM.sl 5 rfl | exact hM.sl 6 rfl | exact hM.arg0 (by assumption) | exact hM.arg (by assumption) (by assumption) | assumption) ?_ ?_ ?_ rfl ?_
              | refine E.appendM 1 hM rfl rfl rfl Try.underlying22 elem_Tbool (by first | exact hM.sl 0 rfl | exact hM.sl 1 rfl | exact hM.sl 2 rfl | exact hM.sl 3 rfl | exact hM.sl 4 rfl | exact hM.sl 5 rfl | exact hM.sl 6 rfl | exact hM.arg0 (by assumption) | exact hM.arg (by assumption) (by assumption) | assumption) ?_ ?_ ?_ rfl ?_
              | refine E.appendM 2 hM rfl rfl rfl Try.underlying22 elem_Tbool (by first | exact hM.sl 0 rfl | exact hM.sl 1 rfl | exact hM.sl 2 rfl | exact hM.sl 3 rfl | exact hM.sl 4 rfl | exact hM.sl 5 rfl | exact hM.sl 6 rfl | exact hM.arg0 (by assumption) | exact hM.arg (by assumption) (by assumption) | assumption) ?_ ?_ ?_ rfl ?_
              | refine E.appendM 3 hM rfl rfl rfl Try.underlying22 elem_Tbool (by first | exact hM.sl 0 rfl | exact hM.sl 1 rfl | exact hM.sl 2 rfl | exact hM.sl 3 rfl | exact hM.sl 4 rfl | exact hM.sl 5 rfl | exact hM.sl 6 rfl | exact hM.arg0 (by assumption) | exact hM.arg (by assumption) (by assumption) | assumption) ?_ ?_ ?_ rfl ?_
              | refine E.appendM 4 hM rfl rfl rfl Try.underlying22 elem_Tbool (by first | exact hM.sl 0 rfl | exact hM.sl 1 rfl | exact hM.sl 2 rfl | exact hM.sl 3 rfl | exact hM.sl 4 rfl | exact hM.sl 5 rfl | exact hM.sl 6 rfl | exact hM.arg0 (by assumption) | exact hM.arg (by assumption) (by assumption) | assumption) ?_ ?_ ?_ rfl ?_
              | refine E.appendM 5 hM rfl rfl rfl Try.underlying22 elem_Tbool (by first | exact hM.sl 0 rfl | exact hM.sl 1 rfl | exact hM.sl 2 rfl | exact hM.sl 3 rfl | exact hM.sl 4 rfl | exact hM.sl 5 rfl | exact hM.sl 6 rfl | exact hM.arg0 (by assumption) | exact hM.arg (by assumption) (by assumption) | assumption) ?_ ?_ ?_ rfl ?_
              | refine E.appendM 6 hM rfl rfl rfl Try.underlying22 elem_Tbool (by first | exact hM.sl 0 rfl | exact hM.sl 1 rfl | exact hM.sl 2 rfl | exact hM.sl 3 rfl | exact hM.sl 4 rfl | exact hM.sl 5 rfl | exact hM.sl 6 rfl | exact hM.arg0 (by assumption) | exact hM.arg (by assumption) (by assumption) | assumption) ?_ ?_ ?_ rfl ?_
            · exact fun _ => rfl
            · exact (by first | omega | (simp only [List.length_replicate, List.length_append, List.length_set, List.length_cons, List.length_nil, List.length_map, List.length_range, List.length_take, List.length_drop, List.length_zipWith] at *; omega))
            · exact (by first | omega | (simp only [List.length_replicate, List.length_append, List.length_set, List.length_cons, List.length_nil, List.length_map, List.length_range, List.length_take, List.length_drop, List.length_zipWith] at *; omega))
            intro v54 w31 hM
            try dsimp only [List.nil_append, List.cons_append, List.set_cons_zero, List.set_cons_succ, repl] at hM
            have hS := hM.pick [0, 1, 2, 3] (by decide)
            refine H.back hS ?_
            refine H.takeV 14 rfl rfl (by kernel_rfl) (by kernel_rfl) (by kernel_rfl) hS (Y.fld (o := 2) (sz := 0) rfl Try.underlying24 rfl rfl (by kernel_rfl)) (fun w' hM => Y.fld (o := 2) (sz := 0) rfl Try.underlying24 rfl rfl (by kernel_rfl)) rfl ?_
            refine H.only 15 rfl (by kernel_rfl) ?_
            first
              | refine E.storeM 0 hM rfl rfl rfl (by kernel_rfl) ?_ rfl ?_
              | refine E.storeM 1 hM rfl rfl rfl (by kernel_rfl) ?_ rfl ?_
              | refine E.storeM 2 hM rfl rfl rfl (by kernel_rfl) ?_ rfl ?_
              | refine E.storeM 3 hM rfl rfl rfl (by kernel_rfl) ?_ rfl ?_
              | refine E.storeM 4 hM rfl rfl rfl (by kernel_rfl) ?_ rfl ?_
              | refine E.storeM 5 hM rfl rfl rfl (by kernel_rfl) ?_ rfl ?_
              | refine E.storeM 6 hM rfl rfl rfl (by kernel_rfl) ?_ rfl ?_
            · exact (by first | rfl | exact (hM.sl 0 rfl).one | exact (hM.sl 1 rfl).one | exact (hM.sl 2 rfl).one | exact (hM.sl 3 rfl).one | exact (hM.sl 4 rfl).one | exact (hM.sl 5 rfl).one | exact (hM.sl 6 rfl).one | exact (hM.slF 0 rfl).one | exact (hM.slF 1 rfl).one | exact (hM.slF 2 rfl).one | exact (hM.slF 3 rfl).one | exact (hM.slF 4 rfl).one | exact (hM.slF 5 rfl).one | exact (hM.slF 6 rfl).one | exact RdL.one (by assumption) | exact RdF.one (by assumption) | assumption)
            intro w32 hM
            try dsimp only [List.nil_append, List.cons_append, List.set_cons_zero, List.set_cons_succ, repl] at hM
            have hS := hM.pick [0, 1, 2, 3] (by decide)
            refine H.back hS ?_
            refine H.done (by kernel_rfl) ?_
            refine X.outN <| X.next <| C.region <| E.mv rfl rfl <| ?_
            refine E.add rfl rfl (by omega) rfl ?_

            refine E.asg rfl rfl <| E.nil <| X.again2 (i + 1) _ (Sub.cons rfl <| Sub.nil _) rfl ⟨by rw [tab_succ]; exact hM.pick [0, 1, 2, 3, 4, 5] (by decide), by omega⟩ (by omega)
      ·
        obtain rfl : i = dk.length := by omega
        refine C.exit <| X.exitT <| X.exitT <| X.outE <| X.next <| C.region <| ?_
        refine E.loadA rfl Try.underlying24 rfl (by kernel_rfl) (by first | exact hM.bat 0 rfl | exact hM.bat 1 rfl | exact hM.bat 2 rfl | exact hM.bat 3 rfl | exact hM.bat 4 rfl | exact hM.bat 5 rfl | exact hM.bat 6 rfl) rfl ?_
        first
          | refine E.storeAM 0 hM rfl rfl rfl (by kernel_rfl) rfl ?_ ?_
          | refine E.storeAM 1 hM rfl rfl rfl (by kernel_rfl) rfl ?_ ?_
          | refine E.storeAM 2 hM rfl rfl rfl (by kernel_rfl) rfl ?_ ?_
          | refine E.storeAM 3 hM rfl rfl rfl (by kernel_rfl) rfl ?_ ?_
          | refine E.storeAM 4 hM rfl rfl rfl (by kernel_rfl) rfl ?_ ?_
          | refine E.storeAM 5 hM rfl rfl rfl (by kernel_rfl) rfl ?_ ?_
          | refine E.storeAM 6 hM rfl rfl rfl (by kernel_rfl) rfl ?_ ?_
        · exact ones (by first | rfl | exact (hM.sl 0 rfl).one | exact (hM.sl 1 rfl).one | exact (hM.sl 2 rfl).one | exact (hM.sl 3 rfl).one | exact (hM.sl 4 rfl).one | exact (hM.sl 5 rfl).one | exact (hM.sl 6 rfl).one | exact (hM.slF 0 rfl).one | exact (hM.slF 1 rfl).one | exact (hM.slF 2 rfl).one | exact (hM.slF 3 rfl).one | exact (hM.slF 4 rfl).one | exact (hM.slF 5 rfl).one | exact (hM.slF 6 rfl).one | exact RdL.one (by assumption) | exact RdF.one (by assumption) | assumption) <| ones (by first | rfl | exact (hM.sl 0 rfl).one | exact (hM.sl 1 rfl).one | exact (hM.sl 2 rfl).one | exact (hM.sl 3 rfl).one | exact (hM.sl 4 rfl).one | exact (hM.sl 5 rfl).one | exact (hM.sl 6 rfl).one | exact (hM.slF 0 rfl).one | exact (hM.slF 1 rfl).one | exact (hM.slF 2 rfl).one | exact (hM.slF 3 rfl).one | exact (hM.slF 4 rfl).one | exact (hM.slF 5 rfl).one | exact (hM.slF 6 rfl).one | exact RdL.one (by assumption) | exact RdF.one (by assumption) | assumption) <| ones (by first | rfl | exact (hM.sl 0 rfl).one | exact (hM.sl 1 rfl).one | exact (hM.sl 2 rfl).one | exact (hM.sl 3 rfl).one | exact (hM.sl 4 rfl).one | exact (hM.sl 5 rfl).one | exact (hM.sl 6 rfl).one | exact (hM.slF 0 rfl).one | exact (hM.slF 1 rfl).one | exact (hM.slF 2 rfl).one | exact (hM.slF 3 rfl).one | exact (hM.slF 4 rfl).one | exact (hM.slF 5 rfl).one | exact (hM.slF 6 rfl).one | exact RdL.one (by assumption) | exact RdF.one (by assumption) | assumption) <| ones_nil
        intro w33 hM
        try dsimp only [List.nil_append, List.cons_append, List.set_cons_zero, List.set_cons_succ, repl] at hM
        refine E.nil <| X.outN <| X.next <| C.region <| E.mv rfl rfl <| ?_
        refine E.add rfl rfl (by omega) rfl ?_

        refine E.asg rfl rfl <| E.nil <| X.again5 (k + 1) d c _ _ (Sub.cons rfl <| Sub.nil _) rfl ⟨hM.pick [0, 1, 2, 5] (by decide), by rw [tab_len, ← hsl]; exact ok_swap hok', by rw [← hsl]; exact hsy.trans (tn_sy (by omega) (by omega) hcn)⟩ (by omega)
    ·
      refine C.exit <| X.exitT <| X.exitT <| X.outE <| X.next <| C.seq <| C.region <| ?_
      refine E.loadA rfl Try.underlying24 rfl (by kernel_rfl) (by first | exact hM.bat 0 rfl | exact hM.bat 1 rfl | exact hM.bat 2 rfl | exact hM.bat 3 rfl | exact hM.bat 4 rfl | exact hM.bat 5 rfl | exact hM.bat 6 rfl) rfl ?_
      first
        | refine E.storeAM 0 hM rfl rfl rfl (by kernel_rfl) rfl ?_ ?_
        | refine E.storeAM 1 hM rfl rfl rfl (by kernel_rfl) rfl ?_ ?_
        | refine E.storeAM 2 hM rfl rfl rfl (by kernel_rfl) rfl ?_ ?_
        | refine E.storeAM 3 hM rfl rfl rfl (by kernel_rfl) rfl ?_ ?_
        | refine E.storeAM 4 hM rfl rfl rfl (by kernel_rfl) rfl ?_ ?_
        | refine E.storeAM 5 hM rfl rfl rfl (by kernel_rfl) rfl ?_ ?_
        | refine E.storeAM 6 hM rfl rfl rfl (by kernel_rfl) rfl ?_ ?_
      · exact ones (by first | rfl | exact (hM.sl 0 rfl).one | exact (hM.sl 1 rfl).one | exact (hM.sl 2 rfl).one | exact (hM.sl 3 rfl).one | exact (hM.sl 4 rfl).one | exact (hM.sl 5 rfl).one | exact (hM.sl 6 rfl).one | exact (hM.slF 0 rfl).one | exact (hM.slF 1 rfl).one | exact (hM.slF 2 rfl).one | exact (hM.slF 3 rfl).one | exact (hM.slF 4 rfl).one | exact (hM.slF 5 rfl).one | exact (hM.slF 6 rfl).one | exact RdL.one (by assumption) | exact RdF.one (by assumption) | assumption) <| ones (by first | rfl | exact (hM.sl 0 rfl).one | exact (hM.sl 1 rfl).one | exact (hM.sl 2 rfl).one | exact (hM.sl 3 rfl).one | exact (hM.sl 4 rfl).one | exact (hM.sl 5 rfl).one | exact (hM.sl 6 rfl).one | exact (hM.slF 0 rfl).one | exact (hM.slF 1 rfl).one | exact (hM.slF 2 rfl).one | exact (hM.slF 3 rfl).one | exact (hM.slF 4 rfl).one | exact (hM.slF 5 rfl).one | exact (hM.slF 6 rfl).one | exact RdL.one (by assumption) | exact RdF.one (by assumption) | assumption) <| ones (by first | rfl | exact (hM.sl 0 rfl).one | exact (hM.sl 1 rfl).one | exact (hM.sl 2 rfl).one | exact (hM.sl 3 rfl).one | exact (hM.sl 4 rfl).one | exact (hM.sl 5 rfl).one | exact (hM.sl 6 rfl).one | exact (hM.slF 0 rfl).one | exact (hM.slF 1 rfl).one | exact (hM.slF 2 rfl).one | exact (hM.slF 3 rfl).one | exact (hM.slF 4 rfl).one | exact (hM.slF 5 rfl).one | exact (hM.slF 6 rfl).one | exact RdL.one (by assumption) | exact RdF.one (by assumption) | assumption) <| ones_nil
      intro w34 hM
      try dsimp only [List.nil_append, List.cons_append, List.set_cons_zero, List.set_cons_succ, repl] at hM
      refine E.asg rfl rfl <| E.nil <| X.next <| C.ret <| retAT rfl rfl rfl Try.underlying24 rfl (by first | exact hM.blk 0 rfl | exact hM.blk 1 rfl | exact hM.blk 2 rfl | exact hM.blk 3 rfl | exact hM.blk 4 rfl | exact hM.blk 5 rfl | exact hM.blk 6 rfl) (by kernel_rfl) ?_
      exact ⟨_, _, _, _, _, rfl, ⟨c, d, rfl, rfl, rfl, hok', hsy⟩, hM.pick [3] (by decide)⟩

end Go.Proofs.Ytnnmebpahickhaa
