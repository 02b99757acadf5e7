/- Texts of the claim, laid together: Loca. -/
import Derived.Test.YtnnmebpahickhaaComponentsLocalTopMg30
/- law 38: Local. -/
namespace Go.Proofs.Ytnnmebpahickhaa
set_option linter.unusedSimpArgs false
set_option linter.unusedVariables false
open Go.RowKit Sym Uf

theorem look_val {env : Env} {d : Nat} {k : IntKind} {x y : Int} (h : Sym.look env d = some (.int k x)) (e : x = y) : Sym.look env d = some (.int k y) := by rw [h, e]
/-- the pixel at (i - 1, j - 1), light outside -/
def pad (a b : Nat) (dk : List Bool) (i j : Nat) : Bool := dark dk (fc a b i j)
theorem pad_out {a b : Nat} {dk : List Bool} {i j : Nat} (hn : dk.length = a * b) (h : ¬ (1 ≤ i ∧ i ≤ a ∧ 1 ≤ j ∧ j ≤ b)) : pad a b dk i j = false := by
  unfold pad dark; rw [fc_out h, ← hn]; simp
theorem pad_in {a b : Nat} {dk : List Bool} {x y : Nat} (hx : x < a) (hy : y < b) : pad a b dk (x + 1) (y + 1) = dk.getD (y * a + x) false := by
  unfold pad dark fc; rw [if_pos (by omega)]; rfl
def q4' (a b c d : Bool) : Int := (if b01 a + b01 b + b01 c + b01 d = 1 then 1 else 0) - (if b01 a + b01 b + b01 c + b01 d = 3 then 1 else 0) - (if b01 a + b01 b + b01 c + b01 d = 2 ∧ a = d then 2 else 0)
theorem q4_eq (a b c d : Bool) : q4' a b c d = q4 a b c d := by cases a <;> cases b <;> cases c <;> cases d <;> decide
theorem q4_le (a b c d : Bool) : -2 ≤ q4 a b c d ∧ q4 a b c d ≤ 1 := by cases a <;> cases b <;> cases c <;> cases d <;> decide
theorem b01_le (b : Bool) : 0 ≤ b01 b ∧ b01 b ≤ 1 := by cases b <;> decide
def qs (a b : Nat) (dk : List Bool) (j i : Nat) : Int := q4 (pad a b dk i j) (pad a b dk (i + 1) j) (pad a b dk i (j + 1)) (pad a b dk (i + 1) (j + 1))
theorem si_le {n : Nat} {f : Nat → Int} {c : Int} (h : ∀ i, -2 * c ≤ f i ∧ f i ≤ c) : -2 * c * (n : Int) ≤ si n f ∧ si n f ≤ c * (n : Int) := by
  induction n with
  | zero => simp [si]
  | succ n ih =>
    rw [si]
    have := h n
    have e1 : -2 * c * ((n + 1 : Nat) : Int) = -2 * c * (n : Int) + -2 * c := by rw [Int.natCast_add, Int.mul_add]; simp
    have e2 : c * ((n + 1 : Nat) : Int) = c * (n : Int) + c := by rw [Int.natCast_add, Int.mul_add]; simp
    rw [e1, e2]; omega
theorem row_le (a b : Nat) (dk : List Bool) (j n : Nat) : -2 * (n : Int) ≤ si n (qs a b dk j) ∧ si n (qs a b dk j) ≤ (n : Int) := by
  have := si_le (n := n) (f := qs a b dk j) (c := 1) (fun i => by have := q4_le (pad a b dk i j) (pad a b dk (i + 1) j) (pad a b dk i (j + 1)) (pad a b dk (i + 1) (j + 1)); unfold qs; omega)
  simpa using this
theorem rows_le (a b : Nat) (dk : List Bool) (n : Nat) : -2 * ((a + 1 : Nat) : Int) * (n : Int) ≤ (si n fun j => si (a + 1) (qs a b dk j)) ∧ (si n fun j => si (a + 1) (qs a b dk j)) ≤ ((a + 1 : Nat) : Int) * (n : Int) :=
  si_le (f := fun j => si (a + 1) (qs a b dk j)) (c := ((a + 1 : Nat) : Int)) fun j => row_le a b dk j (a + 1)
theorem AtP_ret (a b : Nat) (vd : Value) (dk : List Bool) (i j : Nat) (w : World) (hr : RdL Value.bool w vd dk) (hok : okMat (a : Int) (b : Int) dk.length) (hi : i ≤ a + 1) (hj : j ≤ b + 1) :
    Ret Try.prog 26 #[mat a b vd, i64 ((i : Int) - 1), i64 ((j : Int) - 1)] w fun v w' => v = .bool (pad a b dk i j) ∧ Ext w w' := by
  obtain ⟨a0, b0, ea, eb, hW, hH, hn, hn0⟩ := hok.nat
  obtain rfl : a = a0 := by omega
  obtain rfl : b = b0 := by omega
  have hM := M.start w
  refine enter Try.func26 rfl (by kernel_rfl) Try.ntmps26 rfl ?_
  refine C.seq <| C.region <| ?_
  refine E.boxM hM rfl rfl rfl ?_
  intro b3 w0 hM
  try dsimp only [List.nil_append, List.cons_append, List.set_cons_zero, List.set_cons_succ, repl] at hM
  refine E.asg rfl rfl <| E.nil <| X.next <| ?_

  refine C.cut0 [] rfl [(6, .bool (pad a b dk i j))] (fun w' => M w (Nn) w' []) ?_ ?_
  ·
    refine C.region <| ?_
    refine E.loadA rfl Try.underlying24 rfl (by kernel_rfl) (by first | exact hM.bat 0 rfl | exact hM.bat 1 rfl) rfl ?_
    refine E.call rfl rfl (Valid_ret a b vd dk.length _ hr.shape) ?_
    rintro _ w1 ⟨rfl, x1⟩
    have hM := hM.ext x1
    rw [decide_eq_true hok]
    try dsimp only [List.nil_append, List.cons_append, List.set_cons_zero, List.set_cons_succ, repl] at hM
    refine E.mv rfl rfl <| ?_
    refine E.split 9 rfl (fun g9 => ?_) (fun g9 => ?_)
    ·
      try simp only [decide_eq_true_eq, decide_eq_false_iff_not, ne_eq, Decidable.not_not, Bool.not_eq_true', Bool.not_eq_false'] at g9
      refine E.on rfl rfl (E.mv rfl rfl ?_)
      refine E.on rfl rfl (E.bin rfl rfl rfl rfl ?_)
      refine E.pick rfl rfl rfl <| E.mv rfl rfl <| ?_
      refine E.split 13 rfl (fun g13 => ?_) (fun g13 => ?_)
      ·
        try simp only [decide_eq_true_eq, decide_eq_false_iff_not, ne_eq, Decidable.not_not, Bool.not_eq_true', Bool.not_eq_false'] at g13
        refine E.on rfl rfl (E.mv rfl rfl ?_)
        refine E.on rfl rfl (E.fld (o := 0) (sz := 0) rfl Try.underlying24 rfl rfl (by kernel_rfl) rfl ?_)
        refine E.on rfl rfl (E.load rfl Try.underlying3 rfl (by first | exact hM.bcell 0 rfl rfl | exact hM.bcell 1 rfl rfl) rfl ?_)
        refine E.on rfl rfl (E.bin rfl rfl rfl rfl ?_)
        refine E.pick rfl rfl rfl <| E.mv rfl rfl <| ?_
        refine E.split 19 rfl (fun g19 => ?_) (fun g19 => ?_)
        ·
          try simp only [decide_eq_true_eq, decide_eq_false_iff_not, ne_eq, Decidable.not_not, Bool.not_eq_true', Bool.not_eq_false'] at g19
          refine E.on rfl rfl (E.mv rfl rfl ?_)
          refine E.on rfl rfl (E.bin rfl rfl rfl rfl ?_)
          refine E.pick rfl rfl rfl <| E.mv rfl rfl <| ?_
          refine E.split 23 rfl (fun g23 => ?_) (fun g23 => ?_)
          ·
            try simp only [decide_eq_true_eq, decide_eq_false_iff_not, ne_eq, Decidable.not_not, Bool.not_eq_true', Bool.not_eq_false'] at g23
            refine E.on rfl rfl (E.mv rfl rfl ?_)
            refine E.on rfl rfl (E.fld (o := 1) (sz := 0) rfl Try.underlying24 rfl rfl (by kernel_rfl) rfl ?_)
            refine E.on rfl rfl (E.load rfl Try.underlying3 rfl (by first | exact hM.bcell 0 rfl rfl | exact hM.bcell 1 rfl rfl) rfl ?_)
            refine E.on rfl rfl (E.bin rfl rfl rfl rfl ?_)
            refine E.pick rfl rfl rfl <| E.mv rfl rfl <| ?_
            refine E.split 29 rfl (fun g29 => ?_) (fun g29 => ?_)
            ·
              try simp only [decide_eq_true_eq, decide_eq_false_iff_not, ne_eq, Decidable.not_not, Bool.not_eq_true', Bool.not_eq_false'] at g29
              obtain ⟨x, rfl⟩ : ∃ x, i = x + 1 := ⟨i - 1, by omega⟩
              obtain ⟨y, rfl⟩ : ∃ y, j = y + 1 := ⟨j - 1, by omega⟩
              have hx : x < a := by omega
              have hy : y < b := by omega
              have hlt : y * a + x < dk.length := by rw [hn]; exact row_lt hx hy
              rw [show ((y + 1 : Nat) : Int) - 1 = (y : Int) from by omega, show ((x + 1 : Nat) : Int) - 1 = (x : Int) from by omega]
              refine E.on rfl rfl (E.fld (o := 2) (sz := 0) rfl Try.underlying24 rfl rfl (by kernel_rfl) rfl ?_)
              refine E.on rfl rfl (E.load rfl Try.underlying22 rfl (by first | exact hM.bcell 0 rfl rfl | exact hM.bcell 1 rfl rfl) rfl ?_)
              refine E.on rfl rfl (E.mv rfl rfl ?_)
              refine E.on rfl rfl (E.fld (o := 0) (sz := 0) rfl Try.underlying24 rfl rfl (by kernel_rfl) rfl ?_)
              refine E.on rfl rfl (E.load rfl Try.underlying3 rfl (by first | exact hM.bcell 0 rfl rfl | exact hM.bcell 1 rfl rfl) rfl ?_)
              refine E.on rfl rfl (E.mulN rfl rfl (by first | omega | (simp only [List.length_replicate, List.length_append, List.length_set, List.length_cons, List.length_nil, List.length_map, List.length_range, List.length_take, List.length_drop, List.length_zipWith] at *; omega)) rfl ?_)
              refine E.on rfl rfl (E.mv rfl rfl ?_)
              refine E.on rfl rfl (E.addN rfl rfl (by first | omega | (simp only [List.length_replicate, List.length_append, List.length_set, List.length_cons, List.length_nil, List.length_map, List.length_range, List.length_take, List.length_drop, List.length_zipWith] at *; omega)) rfl ?_)
              refine E.on rfl rfl (E.idx1 (k := _) rfl rfl (by first | exact hM.sl 0 rfl | exact hM.sl 1 rfl | exact hM.arg0 (by assumption) | exact hM.arg (by assumption) (by assumption) | assumption) rfl (by first | omega | (simp only [List.length_replicate, List.length_append, List.length_set, List.length_cons, List.length_nil, List.length_map, List.length_range, List.length_take, List.length_drop, List.length_zipWith] at *; omega)) Try.underlying22 (by kernel_rfl) rfl ?_)
              refine E.on rfl rfl (E.load rfl Try.underlying4 rfl (by first | exact (hM.sl 0 rfl).cellA rfl (by first | omega | (simp only [List.length_replicate, List.length_append, List.length_set, List.length_cons, List.length_nil, List.length_map, List.length_range, List.length_take, List.length_drop, List.length_zipWith] at *; omega)) | exact (hM.sl 1 rfl).cellA rfl (by first | omega | (simp only [List.length_replicate, List.length_append, List.length_set, List.length_cons, List.length_nil, List.length_map, List.length_range, List.length_take, List.length_drop, List.length_zipWith] at *; omega)) | exact (hM.arg0 (by assumption)).cellA rfl (by first | omega | (simp only [List.length_replicate, List.length_append, List.length_set, List.length_cons, List.length_nil, List.length_map, List.length_range, List.length_take, List.length_drop, List.length_zipWith] at *; omega)) | exact (hM.arg (by assumption) (by assumption)).cellA rfl (by first | omega | (simp only [List.length_replicate, List.length_append, List.length_set, List.length_cons, List.length_nil, List.length_map, List.length_range, List.length_take, List.length_drop, List.length_zipWith] at *; omega))) rfl ?_)
              rw [show dk[y * a + x] = pad a b dk (x + 1) (y + 1) from by rw [pad_in hx hy, List.getD_eq_getElem?_getD, List.getElem?_eq_getElem hlt]; rfl]

              refine E.pick rfl rfl rfl <| E.asg rfl rfl <| E.nil <| X.join0  (Sub.cons rfl <| Sub.nil _) rfl (hM.pick [] (by decide))
            ·
              try simp only [decide_eq_true_eq, decide_eq_false_iff_not, ne_eq, Decidable.not_not, Bool.not_eq_true', Bool.not_eq_false'] at g29
              rw [pad_out hn (by omega)]

              refine E.off rfl rfl rfl rfl <| E.off rfl rfl rfl rfl <| E.off rfl rfl rfl rfl <| E.off rfl rfl rfl rfl <| E.off rfl rfl rfl rfl <| E.off rfl rfl rfl rfl <| E.off rfl rfl rfl rfl <| E.off rfl rfl rfl rfl <| E.off rfl rfl rfl rfl <| E.off rfl rfl rfl rfl <| E.pick rfl rfl rfl <| E.asg rfl rfl <| E.nil <| X.join0  (Sub.cons rfl <| Sub.nil _) rfl (hM.pick [] (by decide))
          ·
            try simp only [decide_eq_true_eq, decide_eq_false_iff_not, ne_eq, Decidable.not_not, Bool.not_eq_true', Bool.not_eq_false'] at g23
            rw [pad_out hn (by omega)]

            refine E.off rfl rfl rfl rfl <| E.off rfl rfl rfl rfl <| E.off rfl rfl rfl rfl <| E.off rfl rfl rfl rfl <| E.pick rfl rfl rfl <| E.mv rfl rfl <| E.off rfl rfl rfl rfl <| E.off rfl rfl rfl rfl <| E.off rfl rfl rfl rfl <| E.off rfl rfl rfl rfl <| E.off rfl rfl rfl rfl <| E.off rfl rfl rfl rfl <| E.off rfl rfl rfl rfl <| E.off rfl rfl rfl rfl <| E.off rfl rfl rfl rfl <| E.off rfl rfl rfl rfl <| E.pick rfl rfl rfl <| E.asg rfl rfl <| E.nil <| X.join0  (Sub.cons rfl <| Sub.nil _) rfl (hM.pick [] (by decide))
        ·
          try simp only [decide_eq_true_eq, decide_eq_false_iff_not, ne_eq, Decidable.not_not, Bool.not_eq_true', Bool.not_eq_false'] at g19
          rw [pad_out hn (by omega)]

          refine E.off rfl rfl rfl rfl <| E.off rfl rfl rfl rfl <| E.pick rfl rfl rfl <| E.mv rfl rfl <| E.off rfl rfl rfl rfl <| E.off rfl rfl rfl rfl <| E.off rfl rfl rfl rfl <| E.off rfl rfl rfl rfl <| E.pick rfl rfl rfl <| E.mv rfl rfl <| E.off rfl rfl rfl rfl <| E.off rfl rfl rfl rfl <| E.off rfl rfl rfl rfl <| E.off rfl rfl rfl rfl <| E.off rfl rfl rfl rfl <| E.off rfl rfl rfl rfl <| E.off rfl rfl rfl rfl <| E.off rfl rfl rfl rfl <| E.off rfl rfl rfl rfl <| E.off rfl rfl rfl rfl <| E.pick rfl rfl rfl <| E.asg rfl rfl <| E.nil <| X.join0  (Sub.cons rfl <| Sub.nil _) rfl (hM.pick [] (by decide))
      ·
        try simp only [decide_eq_true_eq, decide_eq_false_iff_not, ne_eq, Decidable.not_not, Bool.not_eq_true', Bool.not_eq_false'] at g13
        rw [pad_out hn (by omega)]

        refine E.off rfl rfl rfl rfl <| E.off rfl rfl rfl rfl <| E.off rfl rfl rfl rfl <| E.off rfl rfl rfl rfl <| E.pick rfl rfl rfl <| E.mv rfl rfl <| E.off rfl rfl rfl rfl <| E.off rfl rfl rfl rfl <| E.pick rfl rfl rfl <| E.mv rfl rfl <| E.off rfl rfl rfl rfl <| E.off rfl rfl rfl rfl <| E.off rfl rfl rfl rfl <| E.off rfl rfl rfl rfl <| E.pick rfl rfl rfl <| E.mv rfl rfl <| E.off rfl rfl rfl rfl <| E.off rfl rfl rfl rfl <| E.off rfl rfl rfl rfl <| E.off rfl rfl rfl rfl <| E.off rfl rfl rfl rfl <| E.off rfl rfl rfl rfl <| E.off rfl rfl rfl rfl <| E.off rfl rfl rfl rfl <| E.off rfl rfl rfl rfl <| E.off rfl rfl rfl rfl <| E.pick rfl rfl rfl <| E.asg rfl rfl <| E.nil <| X.join0  (Sub.cons rfl <| Sub.nil _) rfl (hM.pick [] (by decide))
    ·
      try simp only [decide_eq_true_eq, decide_eq_false_iff_not, ne_eq, Decidable.not_not, Bool.not_eq_true', Bool.not_eq_false'] at g9
      cases g9
  rintro  w2 hM
  refine C.ret <| ret1 rfl rfl ?_
  exact ⟨rfl, hM.toExt⟩

set_option maxHeartbeats 4000000 in
theorem ComponentsLocal_ret (W Ht : Int) (vd : Value) (dk : List Bool) (w : World) (hr : RdL Value.bool w vd dk) :
    Ret Try.prog 8 #[mat W Ht vd] w fun v w' => v = .bool true ∧ Ext w w' := by
  have hM := M.start w
  refine enter Try.func8 rfl (by kernel_rfl) Try.ntmps8 rfl ?_
  refine C.seq <| C.region <| ?_
  refine E.boxM hM rfl rfl rfl ?_
  intro b1 w0 hM
  try dsimp only [List.nil_append, List.cons_append, List.set_cons_zero, List.set_cons_succ, repl] at hM
  refine E.asg rfl rfl <| E.nil <| X.next <| C.seq <| C.region <| ?_
  refine E.loadA rfl Try.underlying24 rfl (by kernel_rfl) (by first | exact hM.bat 0 rfl | exact hM.bat 1 rfl) rfl ?_
  refine E.call rfl rfl (Euler_ret W Ht vd dk _ (hM.arg0 hr)) ?_
  rintro _ w1 ⟨n, e, rfl, hE, m⟩
  have hM := hM.call m
  try dsimp only [List.nil_append, List.cons_append, List.set_cons_zero, List.set_cons_succ, repl] at hM
  refine E.mv rfl rfl <| E.ext rfl rfl rfl <| E.ext rfl rfl rfl <| E.asg rfl rfl <| E.asg rfl rfl <| E.nil <| X.next <| C.seq <| ?_

  refine C.cut0 [(1, _), (3, _), (4, _)] rfl [(25, .bool (decide (¬ (dk.length ≤ 1500 ∧ okMat W Ht dk.length))))] (fun w' => M w (Nn) w' [Rg.blk b1 24 [i64 W, i64 Ht, vd]]) ?_ ?_
  ·
    refine C.region <| ?_
    refine E.loadA rfl Try.underlying24 rfl (by kernel_rfl) (by first | exact hM.bat 0 rfl | exact hM.bat 1 rfl) rfl ?_
    refine E.call rfl rfl (few_ret W Ht vd dk.length _ hr.shape) ?_
    rintro _ w2 ⟨rfl, x2⟩
    have hM := hM.ext x2
    try dsimp only [List.nil_append, List.cons_append, List.set_cons_zero, List.set_cons_succ, repl] at hM
    refine E.not rfl rfl <| E.mv rfl rfl <| ?_
    refine E.split 21 rfl (fun g21 => ?_) (fun g21 => ?_)
    ·
      try simp only [decide_eq_true_eq, decide_eq_false_iff_not, ne_eq, Decidable.not_not, Bool.not_eq_true', Bool.not_eq_false'] at g21
      have hno : ¬ dk.length ≤ 1500 := by simpa using g21

      refine E.off rfl rfl rfl rfl <| E.off rfl rfl rfl rfl <| E.off rfl rfl rfl rfl <| E.pick rfl rfl rfl <| E.nil <| X.join0  (Sub.cons (by (first | exact leaf_f (by omega) | exact leaf_t (by omega) | exact leaf_d (by omega) | exact leaf_f (by first | (simp [*] <;> fail) | omega) | exact leaf_t (by first | (simp [*] <;> fail) | omega) | exact leaf_d (by first | (simp [*] <;> fail) | omega) | exact leaf_f (by (first | omega | ((try simp only [decide_eq_true_eq, decide_eq_false_iff_not, Bool.not_eq_true', Bool.not_eq_false'] at *); first | omega | (simp_all <;> fail) | (simp_all; omega)))) | exact leaf_t (by (first | omega | ((try simp only [decide_eq_true_eq, decide_eq_false_iff_not, Bool.not_eq_true', Bool.not_eq_false'] at *); first | omega | (simp_all <;> fail) | (simp_all; omega)))) | exact leaf_d (by (first | omega | ((try simp only [decide_eq_true_eq, decide_eq_false_iff_not, Bool.not_eq_true', Bool.not_eq_false'] at *); first | omega | (simp_all <;> fail) | (simp_all; omega)))))) <| Sub.nil _) rfl hM
    ·
      try simp only [decide_eq_true_eq, decide_eq_false_iff_not, ne_eq, Decidable.not_not, Bool.not_eq_true', Bool.not_eq_false'] at g21
      have hyes : dk.length ≤ 1500 := by simpa using g21
      refine E.on rfl rfl (E.loadA rfl Try.underlying24 rfl (by kernel_rfl) (by first | exact hM.bat 0 rfl | exact hM.bat 1 rfl) rfl ?_)
      refine E.on rfl rfl (E.call rfl rfl (rCheck_ret W Ht vd dk.length _ hr.shape) ?_)
      rintro _ w2 ⟨rfl, x2⟩
      have hM := hM.ext x2
      try dsimp only [List.nil_append, List.cons_append, List.set_cons_zero, List.set_cons_succ, repl] at hM
      refine E.on rfl rfl (E.bin rfl rfl rfl rfl ?_)

      refine E.pick rfl rfl rfl <| E.nil <| X.join0  (Sub.cons (by (first | exact leaf_f (by omega) | exact leaf_t (by omega) | exact leaf_d (by omega) | exact leaf_f (by first | (simp [*] <;> fail) | omega) | exact leaf_t (by first | (simp [*] <;> fail) | omega) | exact leaf_d (by first | (simp [*] <;> fail) | omega) | exact leaf_f (by (first | omega | ((try simp only [decide_eq_true_eq, decide_eq_false_iff_not, Bool.not_eq_true', Bool.not_eq_false'] at *); first | omega | (simp_all <;> fail) | (simp_all; omega)))) | exact leaf_t (by (first | omega | ((try simp only [decide_eq_true_eq, decide_eq_false_iff_not, Bool.not_eq_true', Bool.not_eq_false'] at *); first | omega | (simp_all <;> fail) | (simp_all; omega)))) | exact leaf_d (by (first | omega | ((try simp only [decide_eq_true_eq, decide_eq_false_iff_not, Bool.not_eq_true', Bool.not_eq_false'] at *); first | omega | (simp_all <;> fail) | (simp_all; omega)))))) <| Sub.nil _) rfl hM
  rintro  w4 hM
  refine C.cond' rfl (fun hC0 => ?_) (fun hC0 => ?_)
  ·
    refine C.seq <| C.region <| ?_
    refine E.call rfl rfl (ex38_ret _) ?_
    rintro _ w3 ⟨rfl, x3⟩
    have hM := hM.ext x3
    try dsimp only [List.nil_append, List.cons_append, List.set_cons_zero, List.set_cons_succ, repl] at hM
    refine E.asg rfl rfl <| E.nil <| X.next <| C.ret <| X.retT <| ret1 rfl rfl ?_
    exact ⟨rfl, hM.toExt⟩
  ·
    obtain ⟨hfew, hok⟩ : dk.length ≤ 1500 ∧ okMat W Ht dk.length := Decidable.byContradiction hC0
    obtain ⟨a, b, rfl, rfl, hW, hH, hn, hn0⟩ := hok.nat
    obtain ⟨rfl, hk⟩ := hE.fine hok (few_nf hfew)
    simp only [Int.toNat_natCast] at hk
    have hloc := euler_local hn (by omega) (by omega)
    rw [← hk] at hloc
    have hloc : 4 * n = si (b + 1) fun j => si (a + 1) (qs a b dk j) := hloc
    refine C.skip <| X.next <| C.seq <| C.seq <| C.region <| E.mv rfl rfl <| E.bin rfl rfl rfl rfl <| E.nil <| X.next <| ?_
    refine C.cond' rfl (fun hC1 => ?_) (fun hC1 => ?_)
    ·
      exact (hC1 rfl).elim
    ·
      refine C.skip <| X.next <| C.seq <| C.region <| E.asg rfl rfl <| E.nil <| X.next <| C.seq <| C.seq <| C.region <| E.asg rfl rfl <| E.nil <| X.next <| C.block <| ?_

      refine C.loop1 [(1, _), (3, _)] rfl (fun (j : Nat) => [(5, i64 (si j fun j => si (a + 1) (qs a b dk j))), (6, i64 ((j : Int) - 1))]) (fun (j : Nat) w' => M w (Nn) w' [Rg.blk b1 24 [i64 a, i64 b, vd]] ∧ j ≤ b + 1) (fun (j : Nat) => b + 1 - j) 0 ?_ ?_ ?_
      · exact Sub.cons rfl <| Sub.cons rfl <| Sub.nil _
      · exact ⟨hM, Nat.zero_le _⟩
      rintro j w6 ⟨hM, hj⟩
      refine C.seq <| C.seq <| C.region <| E.mv rfl rfl <| ?_
      refine E.fld (o := 1) (sz := 0) rfl Try.underlying24 rfl rfl (by kernel_rfl) rfl ?_
      refine E.load rfl Try.underlying3 rfl (by first | exact hM.bcell 0 rfl rfl | exact hM.bcell 1 rfl rfl) rfl ?_
      refine E.bin rfl rfl rfl rfl <| E.nil <| X.next <| ?_
      refine C.cond' rfl (fun hC2 => ?_) (fun hC2 => ?_)
      ·
        have hj' : j < b + 1 := by omega
        have hro := rows_le a b dk j
        have hab := Nat.mul_le_mul (show a + 1 ≤ 4097 by omega) (show j ≤ 4097 by omega)
        rw [Int.mul_assoc, ← Int.natCast_mul] at hro
        refine C.skip <| X.next <| C.seq <| C.block <| C.seq <| C.region <| E.asg rfl rfl <| E.nil <| X.next <| C.block <| ?_

        refine C.loop1 [(1, _), (3, _), (6, _)] rfl (fun (i : Nat) => [(5, i64 ((si j fun j => si (a + 1) (qs a b dk j)) + si i (qs a b dk j))), (7, i64 ((i : Int) - 1))]) (fun (i : Nat) w' => M w (Nn) w' [Rg.blk b1 24 [i64 a, i64 b, vd]] ∧ i ≤ a + 1) (fun (i : Nat) => a + 1 - i) 0 ?_ ?_ ?_
        · exact Sub.cons (look_val rfl (by simp [si])) <| Sub.cons rfl <| Sub.nil _
        · exact ⟨hM, Nat.zero_le _⟩
        rintro i w7 ⟨hM, hi⟩
        refine C.seq <| C.seq <| C.region <| E.mv rfl rfl <| ?_
        refine E.fld (o := 0) (sz := 0) rfl Try.underlying24 rfl rfl (by kernel_rfl) rfl ?_
        refine E.load rfl Try.underlying3 rfl (by first | exact hM.bcell 0 rfl rfl | exact hM.bcell 1 rfl rfl) rfl ?_
        refine E.bin rfl rfl rfl rfl <| E.nil <| X.next <| ?_
        refine C.cond' rfl (fun hC3 => ?_) (fun hC3 => ?_)
        ·
          have hi' : i < a + 1 := by omega
          have hri := row_le a b dk j i
          have hb1 := b01_le (pad a b dk i j)
          have hb2 := b01_le (pad a b dk (i + 1) j)
          have hb3 := b01_le (pad a b dk i (j + 1))
          have hb4 := b01_le (pad a b dk (i + 1) (j + 1))
          refine C.skip <| X.next <| ?_

          refine C.cut0 [(1, _), (3, _), (6, _), (7, _)] rfl [(5, i64 ((si j fun j => si (a + 1) (qs a b dk j)) + si (i + 1) (qs a b dk j)))] (fun w' => M w (Nn) w' [Rg.blk b1 24 [i64 a, i64 b, vd]]) ?_ ?_
          ·
            refine C.block <| C.seq <| C.drawn (by kernel_rfl) (by kernel_rfl) <| ?_
            refine Q.loadA rfl Try.underlying24 rfl (by kernel_rfl) (by first | exact hM.bat 0 rfl | exact hM.bat 1 rfl) rfl ?_
            refine Q.mv rfl rfl <| Q.mv rfl rfl <| ?_
            refine Q.call (v := .bool (pad a b dk (i) (j))) rfl rfl (fun w' hw' => by have := AtP_ret a b vd dk (i) (j) w' ((hM.ext hw').arg0 hr) hok (by omega) (by omega); simpa using this) ?_
            refine Q.loadA rfl Try.underlying24 rfl (by kernel_rfl) (by first | exact hM.bat 0 rfl | exact hM.bat 1 rfl) rfl ?_
            refine Q.mv rfl rfl <| ?_
            refine Q.add rfl rfl (by omega) rfl ?_
            refine Q.mv rfl rfl <| ?_
            refine Q.call (v := .bool (pad a b dk (i + 1) (j))) rfl rfl (fun w' hw' => by have := AtP_ret a b vd dk (i + 1) (j) w' ((hM.ext hw').arg0 hr) hok (by omega) (by omega); simpa using this) ?_
            refine Q.asg rfl rfl <| Q.asg rfl rfl <| Q.nil <| fun w8 hx8 => ?_
            have hM := hM.ext hx8
            refine X.next <| C.seq <| C.drawn (by kernel_rfl) (by kernel_rfl) <| ?_
            refine Q.loadA rfl Try.underlying24 rfl (by kernel_rfl) (by first | exact hM.bat 0 rfl | exact hM.bat 1 rfl) rfl ?_
            refine Q.mv rfl rfl <| Q.mv rfl rfl <| ?_
            refine Q.add rfl rfl (by omega) rfl ?_
            refine Q.call (v := .bool (pad a b dk (i) (j + 1))) rfl rfl (fun w' hw' => by have := AtP_ret a b vd dk (i) (j + 1) w' ((hM.ext hw').arg0 hr) hok (by omega) (by omega); simpa using this) ?_
            refine Q.loadA rfl Try.underlying24 rfl (by kernel_rfl) (by first | exact hM.bat 0 rfl | exact hM.bat 1 rfl) rfl ?_
            refine Q.mv rfl rfl <| ?_
            refine Q.add rfl rfl (by omega) rfl ?_
            refine Q.mv rfl rfl <| ?_
            refine Q.add rfl rfl (by omega) rfl ?_
            refine Q.call (v := .bool (pad a b dk (i + 1) (j + 1))) rfl rfl (fun w' hw' => by have := AtP_ret a b vd dk (i + 1) (j + 1) w' ((hM.ext hw').arg0 hr) hok (by omega) (by omega); simpa using this) ?_
            refine Q.asg rfl rfl <| Q.asg rfl rfl <| Q.nil <| fun w9 hx9 => ?_
            have hM := hM.ext hx9
            refine X.next <| C.seq <| C.region <| E.asg rfl rfl <| E.nil <| X.next <| ?_

            refine C.cut0 [(1, _), (3, _), (5, _), (6, _), (7, _), (8, _), (9, _), (10, _), (11, _)] rfl [(12, i64 (b01 (pad a b dk i j)))] (fun w' => M w (Nn) w' [Rg.blk b1 24 [i64 a, i64 b, vd]]) ?_ ?_
            ·
              refine C.seq <| C.region <| E.mv rfl rfl <| E.nil <| X.next <| ?_
              refine C.cond rfl (fun hC4 => ?_) (fun hC4 => ?_)
              ·
                refine C.region <| E.mv rfl rfl <| ?_
                refine E.add rfl rfl (by omega) rfl ?_

                refine E.asg rfl rfl <| E.nil <| X.join0  (Sub.cons (look_val rfl (by rw [hC4]; simp [b01])) <| Sub.nil _) rfl hM
              ·

                refine C.skip <| X.join0  (Sub.cons (look_val rfl (by rw [hC4]; simp [b01])) <| Sub.nil _) rfl hM
            rintro  w10 hM

            refine C.cut0 [(1, _), (3, _), (5, _), (6, _), (7, _), (8, _), (10, _), (11, _)] rfl [(12, i64 (b01 (pad a b dk i j) + b01 (pad a b dk (i + 1) j)))] (fun w' => M w (Nn) w' [Rg.blk b1 24 [i64 a, i64 b, vd]]) ?_ ?_
            ·
              refine C.seq <| C.region <| E.mv rfl rfl <| E.nil <| X.next <| ?_
              refine C.cond rfl (fun hC5 => ?_) (fun hC5 => ?_)
              ·
                refine C.region <| E.mv rfl rfl <| ?_
                refine E.add rfl rfl (by omega) rfl ?_

                refine E.asg rfl rfl <| E.nil <| X.join0  (Sub.cons (look_val rfl (by rw [hC5]; simp [b01])) <| Sub.nil _) rfl hM
              ·

                refine C.skip <| X.join0  (Sub.cons (look_val rfl (by rw [hC5]; simp [b01])) <| Sub.nil _) rfl hM
            rintro  w11 hM

            refine C.cut0 [(1, _), (3, _), (5, _), (6, _), (7, _), (8, _), (11, _)] rfl [(12, i64 (b01 (pad a b dk i j) + b01 (pad a b dk (i + 1) j) + b01 (pad a b dk i (j + 1))))] (fun w' => M w (Nn) w' [Rg.blk b1 24 [i64 a, i64 b, vd]]) ?_ ?_
            ·
              refine C.seq <| C.region <| E.mv rfl rfl <| E.nil <| X.next <| ?_
              refine C.cond rfl (fun hC6 => ?_) (fun hC6 => ?_)
              ·
                refine C.region <| E.mv rfl rfl <| ?_
                refine E.add rfl rfl (by omega) rfl ?_

                refine E.asg rfl rfl <| E.nil <| X.join0  (Sub.cons (look_val rfl (by rw [hC6]; simp [b01])) <| Sub.nil _) rfl hM
              ·

                refine C.skip <| X.join0  (Sub.cons (look_val rfl (by rw [hC6]; simp [b01])) <| Sub.nil _) rfl hM
            rintro  w12 hM

            refine C.cut0 [(1, _), (3, _), (5, _), (6, _), (7, _), (8, _), (11, _)] rfl [(12, i64 (b01 (pad a b dk i j) + b01 (pad a b dk (i + 1) j) + b01 (pad a b dk i (j + 1)) + b01 (pad a b dk (i + 1) (j + 1))))] (fun w' => M w (Nn) w' [Rg.blk b1 24 [i64 a, i64 b, vd]]) ?_ ?_
            ·
              refine C.seq <| C.region <| E.mv rfl rfl <| E.nil <| X.next <| ?_
              refine C.cond rfl (fun hC7 => ?_) (fun hC7 => ?_)
              ·
                refine C.region <| E.mv rfl rfl <| ?_
                refine E.add rfl rfl (by omega) rfl ?_

                refine E.asg rfl rfl <| E.nil <| X.join0  (Sub.cons (look_val rfl (by rw [hC7]; simp [b01])) <| Sub.nil _) rfl hM
              ·

                refine C.skip <| X.join0  (Sub.cons (look_val rfl (by rw [hC7]; simp [b01])) <| Sub.nil _) rfl hM
            rintro  w13 hM

            refine C.cut0 [(1, _), (3, _), (6, _), (7, _), (8, _), (11, _), (12, _)] rfl [(5, i64 ((si j fun j => si (a + 1) (qs a b dk j)) + si i (qs a b dk j) + (if b01 (pad a b dk i j) + b01 (pad a b dk (i + 1) j) + b01 (pad a b dk i (j + 1)) + b01 (pad a b dk (i + 1) (j + 1)) = 1 then 1 else 0)))] (fun w' => M w (Nn) w' [Rg.blk b1 24 [i64 a, i64 b, vd]]) ?_ ?_
            ·
              refine C.seq <| C.region <| E.mv rfl rfl <| E.bin rfl rfl rfl rfl <| E.nil <| X.next <| ?_
              refine C.cond' rfl (fun hC8 => ?_) (fun hC8 => ?_)
              ·
                refine C.region <| E.mv rfl rfl <| ?_
                refine E.add rfl rfl (by omega) rfl ?_

                refine E.asg rfl rfl <| E.nil <| X.join0  (Sub.cons (look_val rfl (by rw [if_pos hC8])) <| Sub.nil _) rfl hM
              ·

                refine C.skip <| X.join0  (Sub.cons (look_val rfl (by rw [if_neg hC8, Int.add_zero])) <| Sub.nil _) rfl hM
            rintro  w14 hM

            refine C.cut0 [(1, _), (3, _), (6, _), (7, _), (8, _), (11, _), (12, _)] rfl [(5, i64 ((si j fun j => si (a + 1) (qs a b dk j)) + si i (qs a b dk j) + (if b01 (pad a b dk i j) + b01 (pad a b dk (i + 1) j) + b01 (pad a b dk i (j + 1)) + b01 (pad a b dk (i + 1) (j + 1)) = 1 then 1 else 0) - (if b01 (pad a b dk i j) + b01 (pad a b dk (i + 1) j) + b01 (pad a b dk i (j + 1)) + b01 (pad a b dk (i + 1) (j + 1)) = 3 then 1 else 0)))] (fun w' => M w (Nn) w' [Rg.blk b1 24 [i64 a, i64 b, vd]]) ?_ ?_
            ·
              refine C.seq <| C.region <| E.mv rfl rfl <| E.bin rfl rfl rfl rfl <| E.nil <| X.next <| ?_
              refine C.cond' rfl (fun hC9 => ?_) (fun hC9 => ?_)
              ·
                refine C.region <| E.mv rfl rfl <| ?_
                refine E.sub' rfl rfl (by omega) rfl ?_

                refine E.asg rfl rfl <| E.nil <| X.join0  (Sub.cons (look_val rfl (by rw [if_pos hC9])) <| Sub.nil _) rfl hM
              ·

                refine C.skip <| X.join0  (Sub.cons (look_val rfl (by rw [if_neg hC9, Int.sub_zero])) <| Sub.nil _) rfl hM
            rintro  w15 hM

            refine C.chainE [(1, _), (3, _), (5, _), (6, _), (7, _)] rfl [(87, .bool (decide (b01 (pad a b dk i j) + b01 (pad a b dk (i + 1) j) + b01 (pad a b dk i (j + 1)) + b01 (pad a b dk (i + 1) (j + 1)) = 2 ∧ (pad a b dk i j) = (pad a b dk (i + 1) (j + 1)))))] ?_ ?_
            ·
              refine C.region <| E.mv rfl rfl <| E.bin rfl rfl rfl rfl <| E.mv rfl rfl <| ?_
              refine E.split 83 rfl (fun g83 => ?_) (fun g83 => ?_)
              ·
                try simp only [decide_eq_true_eq, decide_eq_false_iff_not, ne_eq, Decidable.not_not, Bool.not_eq_true', Bool.not_eq_false'] at g83
                refine E.on rfl rfl (E.mv rfl rfl ?_)
                refine E.on rfl rfl (E.mv rfl rfl ?_)
                refine E.on rfl rfl (E.eqb rfl rfl Try.underlying4 rfl ?_)
                refine E.pick rfl rfl rfl <| E.nil <| X.join0 (Sub.cons (by (first | exact leaf_f (by omega) | exact leaf_t (by omega) | exact leaf_d (by omega) | exact leaf_f (by first | (simp [*] <;> fail) | omega) | exact leaf_t (by first | (simp [*] <;> fail) | omega) | exact leaf_d (by first | (simp [*] <;> fail) | omega) | exact leaf_f (by (first | omega | ((try simp only [decide_eq_true_eq, decide_eq_false_iff_not, Bool.not_eq_true', Bool.not_eq_false'] at *); first | omega | (simp_all <;> fail) | (simp_all; omega)))) | exact leaf_t (by (first | omega | ((try simp only [decide_eq_true_eq, decide_eq_false_iff_not, Bool.not_eq_true', Bool.not_eq_false'] at *); first | omega | (simp_all <;> fail) | (simp_all; omega)))) | exact leaf_d (by (first | omega | ((try simp only [decide_eq_true_eq, decide_eq_false_iff_not, Bool.not_eq_true', Bool.not_eq_false'] at *); first | omega | (simp_all <;> fail) | (simp_all; omega)))))) <| Sub.nil _) rfl rfl
              ·
                try simp only [decide_eq_true_eq, decide_eq_false_iff_not, ne_eq, Decidable.not_not, Bool.not_eq_true', Bool.not_eq_false'] at g83
                refine E.off rfl rfl rfl rfl <| E.off rfl rfl rfl rfl <| E.off rfl rfl rfl rfl <| E.pick rfl rfl rfl <| E.nil <| X.join0 (Sub.cons (by (first | exact leaf_f (by omega) | exact leaf_t (by omega) | exact leaf_d (by omega) | exact leaf_f (by first | (simp [*] <;> fail) | omega) | exact leaf_t (by first | (simp [*] <;> fail) | omega) | exact leaf_d (by first | (simp [*] <;> fail) | omega) | exact leaf_f (by (first | omega | ((try simp only [decide_eq_true_eq, decide_eq_false_iff_not, Bool.not_eq_true', Bool.not_eq_false'] at *); first | omega | (simp_all <;> fail) | (simp_all; omega)))) | exact leaf_t (by (first | omega | ((try simp only [decide_eq_true_eq, decide_eq_false_iff_not, Bool.not_eq_true', Bool.not_eq_false'] at *); first | omega | (simp_all <;> fail) | (simp_all; omega)))) | exact leaf_d (by (first | omega | ((try simp only [decide_eq_true_eq, decide_eq_false_iff_not, Bool.not_eq_true', Bool.not_eq_false'] at *); first | omega | (simp_all <;> fail) | (simp_all; omega)))))) <| Sub.nil _) rfl rfl
            refine C.cond' rfl (fun hC10 => ?_) (fun hC10 => ?_)
            ·
              refine C.region <| E.mv rfl rfl <| ?_
              refine E.sub' rfl rfl (by omega) rfl ?_

              refine E.asg rfl rfl <| E.nil <| X.outN <| X.join0  (Sub.cons (look_val rfl (by rw [si, qs, ← q4_eq, q4', if_pos hC10]; omega)) <| Sub.nil _) rfl hM
            ·

              refine C.skip <| X.outN <| X.join0  (Sub.cons (look_val rfl (by rw [si, qs, ← q4_eq, q4', if_neg hC10]; omega)) <| Sub.nil _) rfl hM
          rintro  w16 hM
          refine C.region <| E.mv rfl rfl <| ?_
          refine E.add rfl rfl (by omega) rfl ?_

          refine E.asg rfl rfl <| E.nil <| X.again1 (i + 1) (Sub.cons rfl <| Sub.cons (look_val rfl (by omega)) <| Sub.nil _) rfl ⟨hM, by omega⟩ (by omega)
        ·
          refine C.exit <| X.exitT <| X.exitT <| X.outE <| X.outN <| X.next <| C.region <| E.mv rfl rfl <| ?_
          refine E.add rfl rfl (by omega) rfl ?_

          refine E.asg rfl rfl <| E.nil <| X.again1 (j + 1) (Sub.cons (look_val rfl (by rw [show i = a + 1 from by omega]; rfl)) <| Sub.cons (look_val rfl (by omega)) <| Sub.nil _) rfl ⟨hM, by omega⟩ (by omega)
      ·
        obtain rfl : j = b + 1 := by omega
        have hro := rows_le a b dk (b + 1)
        have hab := Nat.mul_le_mul (show a + 1 ≤ 4097 by omega) (show b + 1 ≤ 4097 by omega)
        rw [Int.mul_assoc, ← Int.natCast_mul, ← hloc] at hro
        refine C.exit <| X.exitT <| X.exitT <| X.outE <| X.next <| ?_

        refine C.cut0 [] rfl [(2, .bool true)] (fun w' => M w (Nn) w' []) ?_ ?_
        ·
          refine C.region <| E.mv rfl rfl <| ?_
          refine E.mul rfl rfl (by omega) rfl ?_
          refine E.mv rfl rfl <| E.bin rfl rfl rfl rfl <| E.mv rfl rfl <| ?_
          refine E.split 94 rfl (fun g94 => ?_) (fun g94 => ?_)
          ·
            try simp only [decide_eq_true_eq, decide_eq_false_iff_not, ne_eq, Decidable.not_not, Bool.not_eq_true', Bool.not_eq_false'] at g94
            refine E.on rfl rfl (E.call rfl rfl (ex38_ret _) ?_)
            rintro _ w12 ⟨rfl, x12⟩
            have hM := hM.ext x12
            try dsimp only [List.nil_append, List.cons_append, List.set_cons_zero, List.set_cons_succ, repl] at hM

            refine E.pick rfl rfl rfl <| E.asg rfl rfl <| E.nil <| X.join0  (Sub.cons rfl <| Sub.nil _) rfl (hM.pick [] (by decide))
          ·
            try simp only [decide_eq_true_eq, decide_eq_false_iff_not, ne_eq, Decidable.not_not, Bool.not_eq_true', Bool.not_eq_false'] at g94
            exact (g94 hloc).elim
        rintro  w18 hM
        refine C.ret <| ret1 rfl rfl ?_
        exact ⟨rfl, hM.toExt⟩

end Go.Proofs.Ytnnmebpahickhaa
