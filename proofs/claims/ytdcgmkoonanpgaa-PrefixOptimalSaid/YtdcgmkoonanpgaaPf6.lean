/- prefix: bits; Encode. -/
import Derived.Test.YtdcgmkoonanpgaaPf5
import Derived.Test.YtdcgmkoonanpgaaBase
namespace Go.Proofs.Ytdcgmkoonanpgaa
set_option linter.unusedSimpArgs false
set_option linter.unusedVariables false
open Go.RowKit Sym

theorem cdl_get {l : List Nat} {i : Nat} (h : i < (Pf.cdl l).length) : (Pf.cdl l)[i] = (Pf.code l i : Int) := by simp [Pf.cdl, tab]
theorem cdl_len (l : List Nat) : (Pf.cdl l).length = l.length := tab_len _ _
theorem shr_nat {c k : Nat} (hk : k ≤ 62) : (c : Int) / 2 ^ min ((k : Int)).toNat IntKind.i64.bits = ((c / 2 ^ k : Nat) : Int) := by
  have e1 : min ((k : Int)).toNat IntKind.i64.bits = k := by rw [Int.toNat_natCast]; simp [IntKind.bits]; omega
  rw [e1]; simp
theorem band1 (m : Nat) (h : m ≤ 9223372036854775807) : bits .and .i64 (m : Int) 1 = ((m % 2 : Nat) : Int) := by
  have h1 := i64_and_nat m 1 (by omega) (by omega)
  rw [Nat.and_one_is_mod] at h1
  exact h1
/-- bit a of a code of n bits, from the first -/
def bt (c n a : Nat) : Bool := decide (c / 2 ^ (n - 1 - a) % 2 = 1)
/-- n bits of a number -/
def btv (c n : Nat) : List Bool := tab n (bt c n)
theorem btv_len (c n : Nat) : (btv c n).length = n := tab_len _ _
/-- what Encode answers -/
noncomputable def ecv (l : List Nat) : List Bool → List Int → List Bool × Int
  | b, [] => (b, 0)
  | b, s :: ss => if s < 0 ∨ (l.length : Int) ≤ s then ([], 3) else if l.getD s.toNat 0 = 0 then ([], 29) else if 1048576 < b.length + l.getD s.toNat 0 then ([], 4) else ecv l (b ++ btv (Pf.code l s.toNat) (l.getD s.toNat 0)) ss
noncomputable def env (zs ss : List Int) : List Bool × Int := if ckv zs = 0 then ecv (toN zs) [] ss else ([], ckv zs)
theorem env_ok {zs ss : List Int} (h : ckv zs = 0) : env zs ss = ecv (toN zs) [] ss := by rw [env, if_pos h]
theorem env_bad {zs ss : List Int} (h : ¬ ckv zs = 0) : env zs ss = ([], ckv zs) := by rw [env, if_neg h]
theorem drop_cons {α : Type} {l : List α} {i : Nat} (h : i < l.length) : l.drop i = l[i] :: l.drop (i + 1) := List.drop_eq_getElem_cons h
theorem code_big {l : List Nat} (h : ∀ n ∈ l, n ≤ 30) (hk : Pf.kr l ≤ 1073741824) (i : Nat) : Pf.code l i ≤ 1073741824 := by
  by_cases hi : i ∈ Pf.od l
  · exact Nat.le_of_lt (Pf.code_le h hk hi)
  · unfold Pf.code
    split
    · omega
    · exact Nat.le_trans (Nat.div_le_self _ _) (Pf.Kp_le h hk (by rw [List.idxOf_eq_length hi]; exact Nat.le_refl _))
theorem Same_ret (p q : Value) (a b : List Bool) (w : World) (ha : RdL Value.bool w p a) (hb : RdL Value.bool w q b) :
    Ret Try.prog 46 #[p, q] w fun v w' => v = .bool (decide (a = b)) ∧ Ext w w' := by
  have hM := M.start w
  refine enter Try.func46 rfl (by kernel_rfl) Try.ntmps46 rfl ?_
  refine C.seq <| C.region <| E.asg rfl rfl <| E.nil <| X.next <| C.seq <| C.seq <| C.region <| E.mv rfl rfl <| ?_
  refine E.lenv rfl (Rd.shape (hM.arg0 ha)) Try.underlying76 rfl ?_
  refine E.mv rfl rfl <| ?_
  refine E.lenv rfl (Rd.shape (hM.arg0 hb)) Try.underlying76 rfl ?_
  refine E.bin rfl rfl rfl rfl <| E.nil <| X.next <| ?_
  refine C.cond' rfl (fun hC0 => ?_) (fun hC0 => ?_)
  ·
    refine C.seq <| C.region <| E.asg rfl rfl <| E.nil <| X.next <| C.ret <| X.retT <| ret1 rfl rfl ?_
    exact ⟨by rw [decide_eq_false]; intro e; subst e; exact hC0 rfl, hM.toExt⟩
  ·
    have hll : a.length = b.length := by omega
    have hle := Rd.le ha
    refine C.skip <| X.next <| C.seq <| C.seq <| C.region <| E.asg rfl rfl <| E.nil <| X.next <| C.block <| ?_

    refine C.loop1 [(0, _), (1, _)] rfl (fun (i : Nat) => [(5, i64 i)]) (fun (i : Nat) w' => M w (Nn) w' [] ∧ i ≤ a.length ∧ a.take i = b.take i) (fun (i : Nat) => a.length - i) 0 ?_ ?_ ?_
    · exact Sub.cons rfl <| Sub.nil _
    · exact ⟨hM, Nat.zero_le _, rfl⟩
    rintro i w0 ⟨hM, hi, ht⟩
    refine C.seq <| C.seq <| C.region <| E.mv rfl rfl <| E.mv rfl rfl <| ?_
    refine E.lenv rfl (Rd.shape (hM.arg0 ha)) Try.underlying76 rfl ?_
    refine E.bin rfl rfl rfl rfl <| E.nil <| X.next <| ?_
    refine C.cond' rfl (fun hC1 => ?_) (fun hC1 => ?_)
    ·
      have hi' : i < a.length := by omega
      refine C.skip <| X.next <| C.seq <| C.block <| C.seq <| C.drawn (by kernel_rfl) (by kernel_rfl) <| Q.mv rfl rfl <| Q.mv rfl rfl <| ?_
      refine Q.idx1 (k := i) rfl rfl (hM.arg0 ha) rfl (by omega) Try.underlying76 (by kernel_rfl) rfl ?_
      refine Q.load rfl Try.underlying4 rfl ((hM.arg0 ha).cell (by omega)) rfl ?_
      refine Q.mv rfl rfl <| Q.mv rfl rfl <| ?_
      refine Q.idx1 (k := i) rfl rfl (hM.arg0 hb) rfl (by omega) Try.underlying76 (by kernel_rfl) rfl ?_
      refine Q.load rfl Try.underlying4 rfl ((hM.arg0 hb).cell (by omega)) rfl ?_
      refine Q.neb rfl rfl Try.underlying4 rfl <| Q.nil <| fun w1 hx1 => ?_
      have hM := hM.ext hx1
      refine X.next <| ?_
      refine C.cond rfl (fun hC2 => ?_) (fun hC2 => ?_)
      ·
        refine C.seq <| C.region <| E.asg rfl rfl <| E.nil <| X.next <| C.ret <| X.retB <| X.retT <| X.retT <| X.retB <| X.retT <| ret1 rfl rfl ?_
        exact ⟨by rw [decide_eq_false]; intro e; subst e; simp at hC2, hM.toExt⟩
      ·
        have hab : a[i] = b[i] := by simpa using hC2
        refine C.skip <| X.outN <| X.next <| C.region <| E.mv rfl rfl <| ?_
        refine E.add rfl rfl (by omega) rfl ?_

        refine E.asg rfl rfl <| E.nil <| X.again1 (i + 1) (Sub.cons rfl <| Sub.nil _) rfl ⟨hM, by omega, by rw [← List.take_append_getElem hi', ← List.take_append_getElem (show i < b.length by omega), ht, hab]⟩ (by omega)
    ·
      obtain rfl : i = a.length := by omega
      have hee := ht
      rw [List.take_length, hll, List.take_length] at hee
      refine C.exit <| X.exitT <| X.exitT <| X.outE <| X.next <| C.seq <| C.region <| E.asg rfl rfl <| E.nil <| X.next <| C.ret <| ret1 rfl rfl ?_
      exact ⟨by rw [decide_eq_true]; exact hee, hM.toExt⟩

theorem rAppend_ret (p : Value) (b : List Bool) (c n : Nat) (w : World) (hb : RdL Value.bool w p b) (hn : n ≤ 30) (hc : c ≤ 1073741824) :
    Ret Try.prog 71 #[p, i64 c, i64 n] w fun v w' => ∃ vo, v = .tuple #[vo, i64 (if 1048576 < b.length + n then 4 else 0)] ∧ M w Nn w' [Rg.sl Value.bool 4 vo (if 1048576 < b.length + n then [] else b ++ btv c n)] := by
  have hM := M.start w
  refine enter Try.func71 rfl (by kernel_rfl) Try.ntmps71 rfl ?_
  refine C.seq <| C.region <| E.asg rfl rfl <| E.asg rfl rfl <| E.nil <| X.next <| C.seq <| ?_

  refine C.chainE [(0, _), (1, _), (2, _)] rfl [(15, .bool (decide ((n : Int) < 0 ∨ (62 : Int) < n)))] ?_ ?_
  ·
    refine C.region <| E.mv rfl rfl <| E.bin rfl rfl rfl rfl <| E.mv rfl rfl <| ?_
    refine E.split 12 rfl (fun g12 => ?_) (fun g12 => ?_)
    ·
      try simp only [decide_eq_true_eq, decide_eq_false_iff_not, ne_eq, Decidable.not_not, Bool.not_eq_true', Bool.not_eq_false'] at g12
      refine E.off rfl rfl rfl rfl <| E.off rfl rfl rfl rfl <| E.pick rfl rfl rfl <| E.nil <| X.join0 (Sub.cons (by (first | exact leaf_f (by omega) | exact leaf_t (by omega) | exact leaf_d (by omega) | exact leaf_f (by first | (simp [*] <;> fail) | omega) | exact leaf_t (by first | (simp [*] <;> fail) | omega) | exact leaf_d (by first | (simp [*] <;> fail) | omega) | exact leaf_f (by (first | omega | ((try simp only [decide_eq_true_eq, decide_eq_false_iff_not, Bool.not_eq_true', Bool.not_eq_false'] at *); first | omega | (simp_all <;> fail) | (simp_all; omega)))) | exact leaf_t (by (first | omega | ((try simp only [decide_eq_true_eq, decide_eq_false_iff_not, Bool.not_eq_true', Bool.not_eq_false'] at *); first | omega | (simp_all <;> fail) | (simp_all; omega)))) | exact leaf_d (by (first | omega | ((try simp only [decide_eq_true_eq, decide_eq_false_iff_not, Bool.not_eq_true', Bool.not_eq_false'] at *); first | omega | (simp_all <;> fail) | (simp_all; omega)))))) <| Sub.nil _) rfl rfl
    ·
      try simp only [decide_eq_true_eq, decide_eq_false_iff_not, ne_eq, Decidable.not_not, Bool.not_eq_true', Bool.not_eq_false'] at g12
      refine E.on rfl rfl (E.mv rfl rfl ?_)
      refine E.on rfl rfl (E.bin rfl rfl rfl rfl ?_)
      refine E.pick rfl rfl rfl <| E.nil <| X.join0 (Sub.cons (by (first | exact leaf_f (by omega) | exact leaf_t (by omega) | exact leaf_d (by omega) | exact leaf_f (by first | (simp [*] <;> fail) | omega) | exact leaf_t (by first | (simp [*] <;> fail) | omega) | exact leaf_d (by first | (simp [*] <;> fail) | omega) | exact leaf_f (by (first | omega | ((try simp only [decide_eq_true_eq, decide_eq_false_iff_not, Bool.not_eq_true', Bool.not_eq_false'] at *); first | omega | (simp_all <;> fail) | (simp_all; omega)))) | exact leaf_t (by (first | omega | ((try simp only [decide_eq_true_eq, decide_eq_false_iff_not, Bool.not_eq_true', Bool.not_eq_false'] at *); first | omega | (simp_all <;> fail) | (simp_all; omega)))) | exact leaf_d (by (first | omega | ((try simp only [decide_eq_true_eq, decide_eq_false_iff_not, Bool.not_eq_true', Bool.not_eq_false'] at *); first | omega | (simp_all <;> fail) | (simp_all; omega)))))) <| Sub.nil _) rfl rfl
  refine C.cond' rfl (fun hC0 => ?_) (fun hC0 => ?_)
  ·
    omega
  ·
    refine C.skip <| X.next <| C.seq <| C.seq <| C.region <| E.mv rfl rfl <| ?_
    refine E.lenv rfl (Rd.shape (hM.arg0 hb)) Try.underlying76 rfl ?_
    refine E.mv rfl rfl <| ?_
    refine E.sub' rfl rfl (by omega) rfl ?_
    refine E.bin rfl rfl rfl rfl <| E.nil <| X.next <| ?_
    refine C.cond' rfl (fun hC1 => ?_) (fun hC1 => ?_)
    ·
      refine C.seq <| C.region <| E.asg rfl rfl <| E.asg rfl rfl <| E.nil <| X.next <| C.ret <| X.retT <| ret2 rfl rfl rfl ?_
      exact ⟨_, by rw [if_pos (by omega)], by rw [if_pos (by omega)]; exact hM.nil Value.bool 4⟩
    ·
      have hbl : ¬ 1048576 < b.length + n := by omega
      refine C.skip <| X.next <| C.seq <| C.region <| E.asg rfl rfl <| E.nil <| X.next <| C.seq <| C.region <| E.mv rfl rfl <| E.mv rfl rfl <| ?_
      have hM := hM.nil Value.bool 4
      try dsimp only [List.nil_append, List.cons_append, List.set_cons_zero, List.set_cons_succ, repl] at hM
      refine E.appendM 0 hM rfl rfl rfl Try.underlying76 elem_Tbool (hM.arg0 hb) (fun _ => rfl) (by simp; omega) (by simp; omega) rfl ?_
      intro v23 w0 hM
      try dsimp only [List.nil_append, List.cons_append, List.set_cons_zero, List.set_cons_succ, repl] at hM
      refine E.asg rfl rfl <| E.nil <| X.next <| C.seq <| C.seq <| C.region <| E.mv rfl rfl <| ?_
      refine E.sub' rfl rfl (by omega) rfl ?_
      refine E.asg rfl rfl <| E.nil <| X.next <| C.block <| ?_

      refine C.loop2 [(1, _)] rfl (fun (j : Nat) (vb : Value) => [(8, vb), (9, i64 ((n : Int) - 1 - j))]) (fun (j : Nat) (vb : Value) w' => M w (Nn) w' [Rg.sl Value.bool 4 vb (b ++ tab j (bt c n))] ∧ j ≤ n) (fun (j : Nat) (vb : Value) => n - j) 0 v23 ?_ ?_ ?_
      · exact Sub.cons rfl <| Sub.cons (look_val rfl (by omega)) <| Sub.nil _
      · exact ⟨hM.to (by rw [tab_zero, List.append_nil]), Nat.zero_le _⟩
      rintro j vb w1 ⟨hM, hj⟩
      refine C.seq <| C.seq <| C.region <| E.mv rfl rfl <| E.bin rfl rfl rfl rfl <| E.nil <| X.next <| ?_
      refine C.cond' rfl (fun hC2 => ?_) (fun hC2 => ?_)
      ·
        have hjn : j < n := by omega
        have e9 : (n : Int) - 1 - j = ((n - 1 - j : Nat) : Int) := by omega
        rw [e9]
        have hdv : c / 2 ^ (n - 1 - j) ≤ c := Nat.div_le_self _ _
        refine C.skip <| X.next <| C.seq <| C.block <| C.region <| E.mv rfl rfl <| E.mv rfl rfl <| E.mv rfl rfl <| ?_
        refine E.conv rfl Try.underlying3 Try.underlying87 (IntWalk.u64_in _ (by omega)) rfl ?_
        refine E.shr rfl rfl (by omega) (shr_nat (by omega)) rfl ?_
        refine E.binw rfl rfl rfl (congrArg _ (band1 _ (by omega))) rfl ?_
        refine E.bin rfl rfl rfl rfl <| ?_
        refine E.pushM (enc := Value.bool) 0 (bt c n j) hM rfl rfl (look_eq rfl (by unfold bt; congr 1; apply decide_eq_decide.2; omega)) Try.underlying76 elem_Tbool rfl (by simp [tab_len]; omega) (by simp [tab_len]; omega) (by simp) rfl rfl ?_
        intro v38 u38 w2 hM
        try dsimp only [List.nil_append, List.cons_append, List.set_cons_zero, List.set_cons_succ, repl] at hM
        refine E.asg rfl rfl <| E.nil <| X.outN <| X.next <| C.region <| E.mv rfl rfl <| ?_
        refine E.sub' rfl rfl (by omega) rfl ?_

        refine E.asg rfl rfl <| E.nil <| X.again2 (j + 1) v38 (Sub.cons rfl <| Sub.cons (look_val rfl (by omega)) <| Sub.nil _) rfl ⟨hM.to (by rw [tab_succ, List.append_assoc]), by omega⟩ (by omega)
      ·
        obtain rfl : j = n := by omega
        refine C.exit <| X.exitT <| X.exitT <| X.outE <| X.next <| C.seq <| C.region <| E.mv rfl rfl <| E.asg rfl rfl <| E.asg rfl rfl <| E.nil <| X.next <| C.ret <| ret2 rfl rfl rfl ?_
        exact ⟨_, by rw [if_neg hbl], by rw [if_neg hbl]; exact hM⟩

/-- the number that bits make -/
def bvl (bs : List Bool) : Nat := bs.foldl (fun v x => 2 * v + (if x then 1 else 0)) 0
def tkv (b : List Bool) (at_ n : Nat) : Nat := bvl ((b.drop at_).take n)
theorem tkv_zero (b : List Bool) (a : Nat) : tkv b a 0 = 0 := by simp [tkv, bvl]
theorem tkv_succ {b : List Bool} {a n : Nat} (h : a + n < b.length) : tkv b a (n + 1) = 2 * tkv b a n + (if b[a + n] then 1 else 0) := by
  unfold tkv bvl
  rw [← List.take_append_getElem (show n < (b.drop a).length by rw [List.length_drop]; omega), List.foldl_append, List.getElem_drop]; rfl
theorem tkv_lt {b : List Bool} {a : Nat} : ∀ {n : Nat}, a + n ≤ b.length → tkv b a n < 2 ^ n := by
  intro n
  induction n with
  | zero => intro _; rw [tkv_zero]; decide
  | succ n ih =>
    intro h
    have := ih (by omega)
    rw [tkv_succ (by omega), Nat.pow_succ]
    split <;> omega
theorem tkv_div {b : List Bool} {a j n : Nat} (hj : j ≤ n) (h : a + n ≤ b.length) : tkv b a n / 2 ^ (n - j) = tkv b a j := by
  induction n with
  | zero => obtain rfl : j = 0 := by omega
            simp
  | succ n ih =>
    by_cases e : j = n + 1
    · subst e; simp
    · rw [show n + 1 - j = (n - j) + 1 by omega, Nat.pow_succ, Nat.mul_comm, ← Nat.div_div_eq_div_mul, tkv_succ (by omega), ← ih (by omega) (by omega)]
      congr 1
      split <;> omega
theorem tkv_40 {b : List Bool} {a n : Nat} (hn : n ≤ 40) (h : a + n ≤ b.length) : tkv b a n < 1099511627776 := by
  have h1 := tkv_lt h
  have h2 : 2 ^ n ≤ 2 ^ 40 := Nat.pow_le_pow_right (by decide) hn
  omega
theorem rTake_ret (p : Value) (b : List Bool) (a n : Nat) (w : World) (hb : RdL Value.bool w p b) (hn : n ≤ 40) (hal : a ≤ b.length) :
    Ret Try.prog 72 #[p, i64 a, i64 n] w fun v w' => v = .tuple #[i64 ((if b.length < a + n then 0 else tkv b a n : Nat) : Int), i64 (if b.length < a + n then 10 else 0)] ∧ Ext w w' := by
  have hM := M.start w
  refine enter Try.func72 rfl (by kernel_rfl) Try.ntmps72 rfl ?_
  refine C.seq <| C.region <| E.asg rfl rfl <| E.asg rfl rfl <| E.nil <| X.next <| C.seq <| ?_

  refine C.chainE [(0, _), (1, _), (2, _)] rfl [(25, .bool (decide (((((n : Int) < 0) ∨ ((62 : Int) < n)) ∨ ((a : Int) < 0)) ∨ ((b.length : Int) < a))))] ?_ ?_
  ·
    refine C.region <| E.mv rfl rfl <| E.bin rfl rfl rfl rfl <| E.mv rfl rfl <| ?_
    refine E.split 12 rfl (fun g12 => ?_) (fun g12 => ?_)
    ·
      try simp only [decide_eq_true_eq, decide_eq_false_iff_not, ne_eq, Decidable.not_not, Bool.not_eq_true', Bool.not_eq_false'] at g12
      refine E.off rfl rfl rfl rfl <| E.off rfl rfl rfl rfl <| E.pick rfl rfl rfl <| E.mv rfl rfl <| E.off rfl rfl rfl rfl <| E.off rfl rfl rfl rfl <| E.pick rfl rfl rfl <| E.mv rfl rfl <| E.off rfl rfl rfl rfl <| E.off rfl rfl rfl rfl <| E.off rfl rfl rfl rfl <| E.off rfl rfl rfl rfl <| E.pick rfl rfl rfl <| E.nil <| X.join0 (Sub.cons (by (first | exact leaf_f (by omega) | exact leaf_t (by omega) | exact leaf_d (by omega) | exact leaf_f (by first | (simp [*] <;> fail) | omega) | exact leaf_t (by first | (simp [*] <;> fail) | omega) | exact leaf_d (by first | (simp [*] <;> fail) | omega) | exact leaf_f (by (first | omega | ((try simp only [decide_eq_true_eq, decide_eq_false_iff_not, Bool.not_eq_true', Bool.not_eq_false'] at *); first | omega | (simp_all <;> fail) | (simp_all; omega)))) | exact leaf_t (by (first | omega | ((try simp only [decide_eq_true_eq, decide_eq_false_iff_not, Bool.not_eq_true', Bool.not_eq_false'] at *); first | omega | (simp_all <;> fail) | (simp_all; omega)))) | exact leaf_d (by (first | omega | ((try simp only [decide_eq_true_eq, decide_eq_false_iff_not, Bool.not_eq_true', Bool.not_eq_false'] at *); first | omega | (simp_all <;> fail) | (simp_all; omega)))))) <| Sub.nil _) rfl rfl
    ·
      try simp only [decide_eq_true_eq, decide_eq_false_iff_not, ne_eq, Decidable.not_not, Bool.not_eq_true', Bool.not_eq_false'] at g12
      refine E.on rfl rfl (E.mv rfl rfl ?_)
      refine E.on rfl rfl (E.bin rfl rfl rfl rfl ?_)
      refine E.pick rfl rfl rfl <| E.mv rfl rfl <| ?_
      refine E.split 16 rfl (fun g16 => ?_) (fun g16 => ?_)
      ·
        try simp only [decide_eq_true_eq, decide_eq_false_iff_not, ne_eq, Decidable.not_not, Bool.not_eq_true', Bool.not_eq_false'] at g16
        refine E.off rfl rfl rfl rfl <| E.off rfl rfl rfl rfl <| E.pick rfl rfl rfl <| E.mv rfl rfl <| E.off rfl rfl rfl rfl <| E.off rfl rfl rfl rfl <| E.off rfl rfl rfl rfl <| E.off rfl rfl rfl rfl <| E.pick rfl rfl rfl <| E.nil <| X.join0 (Sub.cons (by (first | exact leaf_f (by omega) | exact leaf_t (by omega) | exact leaf_d (by omega) | exact leaf_f (by first | (simp [*] <;> fail) | omega) | exact leaf_t (by first | (simp [*] <;> fail) | omega) | exact leaf_d (by first | (simp [*] <;> fail) | omega) | exact leaf_f (by (first | omega | ((try simp only [decide_eq_true_eq, decide_eq_false_iff_not, Bool.not_eq_true', Bool.not_eq_false'] at *); first | omega | (simp_all <;> fail) | (simp_all; omega)))) | exact leaf_t (by (first | omega | ((try simp only [decide_eq_true_eq, decide_eq_false_iff_not, Bool.not_eq_true', Bool.not_eq_false'] at *); first | omega | (simp_all <;> fail) | (simp_all; omega)))) | exact leaf_d (by (first | omega | ((try simp only [decide_eq_true_eq, decide_eq_false_iff_not, Bool.not_eq_true', Bool.not_eq_false'] at *); first | omega | (simp_all <;> fail) | (simp_all; omega)))))) <| Sub.nil _) rfl rfl
      ·
        try simp only [decide_eq_true_eq, decide_eq_false_iff_not, ne_eq, Decidable.not_not, Bool.not_eq_true', Bool.not_eq_false'] at g16
        refine E.on rfl rfl (E.mv rfl rfl ?_)
        refine E.on rfl rfl (E.bin rfl rfl rfl rfl ?_)
        refine E.pick rfl rfl rfl <| E.mv rfl rfl <| ?_
        refine E.split 20 rfl (fun g20 => ?_) (fun g20 => ?_)
        ·
          try simp only [decide_eq_true_eq, decide_eq_false_iff_not, ne_eq, Decidable.not_not, Bool.not_eq_true', Bool.not_eq_false'] at g20
          refine E.off rfl rfl rfl rfl <| E.off rfl rfl rfl rfl <| E.off rfl rfl rfl rfl <| E.off rfl rfl rfl rfl <| E.pick rfl rfl rfl <| E.nil <| X.join0 (Sub.cons (by (first | exact leaf_f (by omega) | exact leaf_t (by omega) | exact leaf_d (by omega) | exact leaf_f (by first | (simp [*] <;> fail) | omega) | exact leaf_t (by first | (simp [*] <;> fail) | omega) | exact leaf_d (by first | (simp [*] <;> fail) | omega) | exact leaf_f (by (first | omega | ((try simp only [decide_eq_true_eq, decide_eq_false_iff_not, Bool.not_eq_true', Bool.not_eq_false'] at *); first | omega | (simp_all <;> fail) | (simp_all; omega)))) | exact leaf_t (by (first | omega | ((try simp only [decide_eq_true_eq, decide_eq_false_iff_not, Bool.not_eq_true', Bool.not_eq_false'] at *); first | omega | (simp_all <;> fail) | (simp_all; omega)))) | exact leaf_d (by (first | omega | ((try simp only [decide_eq_true_eq, decide_eq_false_iff_not, Bool.not_eq_true', Bool.not_eq_false'] at *); first | omega | (simp_all <;> fail) | (simp_all; omega)))))) <| Sub.nil _) rfl rfl
        ·
          try simp only [decide_eq_true_eq, decide_eq_false_iff_not, ne_eq, Decidable.not_not, Bool.not_eq_true', Bool.not_eq_false'] at g20
          refine E.on rfl rfl (E.mv rfl rfl ?_)
          refine E.on rfl rfl (E.mv rfl rfl ?_)
          refine E.on rfl rfl (E.lenv rfl (Rd.shape (hM.arg0 hb)) Try.underlying76 rfl ?_)
          refine E.on rfl rfl (E.bin rfl rfl rfl rfl ?_)
          refine E.pick rfl rfl rfl <| E.nil <| X.join0 (Sub.cons (by (first | exact leaf_f (by omega) | exact leaf_t (by omega) | exact leaf_d (by omega) | exact leaf_f (by first | (simp [*] <;> fail) | omega) | exact leaf_t (by first | (simp [*] <;> fail) | omega) | exact leaf_d (by first | (simp [*] <;> fail) | omega) | exact leaf_f (by (first | omega | ((try simp only [decide_eq_true_eq, decide_eq_false_iff_not, Bool.not_eq_true', Bool.not_eq_false'] at *); first | omega | (simp_all <;> fail) | (simp_all; omega)))) | exact leaf_t (by (first | omega | ((try simp only [decide_eq_true_eq, decide_eq_false_iff_not, Bool.not_eq_true', Bool.not_eq_false'] at *); first | omega | (simp_all <;> fail) | (simp_all; omega)))) | exact leaf_d (by (first | omega | ((try simp only [decide_eq_true_eq, decide_eq_false_iff_not, Bool.not_eq_true', Bool.not_eq_false'] at *); first | omega | (simp_all <;> fail) | (simp_all; omega)))))) <| Sub.nil _) rfl rfl
  refine C.cond' rfl (fun hC0 => ?_) (fun hC0 => ?_)
  ·
    omega
  ·
    have hle := Rd.le hb
    refine C.skip <| X.next <| C.seq <| C.seq <| C.region <| E.mv rfl rfl <| E.mv rfl rfl <| ?_
    refine E.lenv rfl (Rd.shape (hM.arg0 hb)) Try.underlying76 rfl ?_
    refine E.mv rfl rfl <| ?_
    refine E.sub' rfl rfl (by omega) rfl ?_
    refine E.bin rfl rfl rfl rfl <| E.nil <| X.next <| ?_
    refine C.cond' rfl (fun hC1 => ?_) (fun hC1 => ?_)
    ·
      refine C.seq <| C.region <| E.asg rfl rfl <| E.asg rfl rfl <| E.nil <| X.next <| C.ret <| X.retT <| ret2 rfl rfl rfl ?_
      exact ⟨by rw [if_pos (by omega), if_pos (by omega)]; rfl, hM.toExt⟩
    ·
      have hbl : ¬ b.length < a + n := by omega
      refine C.skip <| X.next <| C.seq <| C.region <| E.asg rfl rfl <| E.nil <| X.next <| C.seq <| C.seq <| C.region <| E.mv rfl rfl <| E.asg rfl rfl <| E.nil <| X.next <| C.block <| ?_

      refine C.loop1 [(0, _), (1, _), (2, _)] rfl (fun (j : Nat) => [(8, i64 (tkv b a j : Int)), (9, i64 ((a + j : Nat) : Int))]) (fun (j : Nat) w' => M w (Nn) w' [] ∧ j ≤ n) (fun (j : Nat) => n - j) 0 ?_ ?_ ?_
      · exact Sub.cons (look_val rfl (by rw [tkv_zero]; rfl)) <| Sub.cons rfl <| Sub.nil _
      · exact ⟨hM, Nat.zero_le _⟩
      rintro j w0 ⟨hM, hj⟩
      refine C.seq <| C.seq <| C.region <| E.mv rfl rfl <| E.mv rfl rfl <| E.mv rfl rfl <| ?_
      refine E.add rfl rfl (by omega) rfl ?_
      refine E.bin rfl rfl rfl rfl <| E.nil <| X.next <| ?_
      refine C.cond' rfl (fun hC2 => ?_) (fun hC2 => ?_)
      ·
        have hjn : j < n := by omega
        have hts := tkv_succ (b := b) (a := a) (n := j) (by omega)
        have htl := tkv_40 (b := b) (a := a) (n := j) (by omega) (by omega)
        refine C.skip <| X.next <| ?_

        refine C.cut0 [(0, _), (1, _), (2, _), (9, _)] rfl [(8, i64 (tkv b a (j + 1) : Int))] (fun w' => M w (Nn) w' []) ?_ ?_
        ·
          refine C.block <| C.seq <| C.region <| E.mv rfl rfl <| ?_
          refine E.mulN (a := 2) (b := tkv b a j) rfl rfl (by omega) rfl ?_
          refine E.asg rfl rfl <| E.nil <| X.next <| C.seq <| C.region <| E.mv rfl rfl <| E.mv rfl rfl <| ?_
          refine E.get (k := (a + j)) rfl rfl (hM.arg0 hb) rfl (by omega) Try.underlying76 (by kernel_rfl) Try.underlying4 rfl rfl rfl ?_
          refine E.nil <| X.next <| ?_
          refine C.cond rfl (fun hC3 => ?_) (fun hC3 => ?_)
          ·
            refine C.region <| E.mv rfl rfl <| ?_
            refine E.addN (b := 1) rfl rfl (by omega) rfl ?_

            refine E.asg rfl rfl <| E.nil <| X.outN <| X.join0  (Sub.cons (look_val rfl (by rw [hts, if_pos hC3])) <| Sub.nil _) rfl hM
          ·

            refine C.skip <| X.outN <| X.join0  (Sub.cons (look_val rfl (by rw [hts, if_neg (by rw [hC3]; decide)]; rfl)) <| Sub.nil _) rfl hM
        rintro  w1 hM
        refine C.region <| E.mv rfl rfl <| ?_
        refine E.addN (b := 1) rfl rfl (by omega) rfl ?_

        refine E.asg rfl rfl <| E.nil <| X.again1 (j + 1) (Sub.cons rfl <| Sub.cons rfl <| Sub.nil _) rfl ⟨hM, by omega⟩ (by omega)
      ·
        obtain rfl : j = n := by omega
        refine C.exit <| X.exitT <| X.exitT <| X.outE <| X.next <| C.seq <| C.region <| E.mv rfl rfl <| E.asg rfl rfl <| E.asg rfl rfl <| E.nil <| X.next <| C.ret <| ret2 rfl rfl rfl ?_
        exact ⟨by rw [if_neg hbl, if_neg hbl], hM.toExt⟩

set_option maxHeartbeats 1000000 in
theorem Encode_ret (p q : Value) (zs ss : List Int) (w : World) (hr : RdL i64 w p zs) (hq : RdL i64 w q ss) :
    Ret Try.prog 42 #[p, q] w fun v w' => ∃ vo, v = .tuple #[vo, i64 (env zs ss).2] ∧ M w Nn w' [Rg.sl Value.bool 4 vo (env zs ss).1] := by
  have hM := M.start w
  refine enter Try.func42 rfl (by kernel_rfl) Try.ntmps42 rfl ?_
  refine C.seq <| C.region <| E.asg rfl rfl <| E.asg rfl rfl <| E.nil <| X.next <| C.seq <| C.region <| E.mv rfl rfl <| ?_
  refine E.call rfl rfl (Codes_ret p zs _ (hM.arg0 hr)) ?_
  rintro _ w1 ⟨v15, rfl, m⟩
  have hM := hM.call m
  try dsimp only [List.nil_append, List.cons_append, List.set_cons_zero, List.set_cons_succ, repl] at hM
  refine E.mv rfl rfl <| E.ext rfl rfl rfl <| E.ext rfl rfl rfl <| E.asg rfl rfl <| E.asg rfl rfl <| E.nil <| X.next <| C.seq <| C.seq <| C.region <| E.mv rfl rfl <| E.bin rfl rfl rfl rfl <| E.nil <| X.next <| ?_
  refine C.cond' rfl (fun hC0 => ?_) (fun hC0 => ?_)
  ·
    refine C.seq <| C.region <| E.mv rfl rfl <| E.asg rfl rfl <| E.asg rfl rfl <| E.nil <| X.next <| C.ret <| X.retT <| ret2 rfl rfl rfl ?_
    exact ⟨_, by rw [env_bad hC0], by rw [env_bad hC0]; exact (hM.nil Value.bool 4).pick [1] (by decide)⟩
  ·
    have hck := Decidable.byContradiction hC0
    obtain ⟨hl4, hok, hkr⟩ := ckv_ok hck
    obtain ⟨hr', hb⟩ := ok_kr hr hok
    have hlz := toN_len zs
    rw [cdv, if_pos hck] at hM
    have hev := env_ok (ss := ss) hck
    obtain ⟨l, hl⟩ : ∃ l, l = toN zs := ⟨_, rfl⟩
    rw [← hl] at hr' hb hkr hlz hM hev
    have hnl := nz_len l
    have hle := Rd.le hq
    have hM := hM.nil Value.bool 4
    try dsimp only [List.nil_append, List.cons_append, List.set_cons_zero, List.set_cons_succ, repl] at hM
    refine C.skip <| X.next <| C.seq <| C.region <| E.asg rfl rfl <| E.nil <| X.next <| C.seq <| C.seq <| C.region <| E.mv rfl rfl <| ?_
    refine E.lenv rfl (Rd.shape (hM.arg0 hq)) Try.underlying67 rfl ?_
    refine E.mv rfl rfl <| E.nil <| X.next <| C.block <| ?_

    refine C.loop3 [(0, _), (6, _), (21, _), (22, _)] rfl (fun (i : Nat) (b : (List Bool)) (vb : Value) => [(8, vb), (23, i64 i)]) (fun (i : Nat) (b : (List Bool)) (vb : Value) w' => M w (Nn) w' [Rg.sl i64 3 v15 (Pf.cdl l), Rg.sl Value.bool 4 vb b] ∧ i ≤ ss.length ∧ b.length ≤ 1048576 ∧ ecv l [] ss = ecv l b (ss.drop i)) (fun (i : Nat) (b : (List Bool)) (vb : Value) => ss.length - i) 0 [] nilI ?_ ?_ ?_
    · exact Sub.cons rfl <| Sub.cons rfl <| Sub.nil _
    · exact ⟨hM, Nat.zero_le _, by simp, rfl⟩
    rintro i b vb w1 ⟨hM, hi, hbl, hE⟩
    refine C.seq <| C.region <| E.bin rfl rfl rfl rfl <| E.nil <| X.next <| C.seq <| ?_
    refine C.cond' rfl (fun hC1 => ?_) (fun hC1 => ?_)
    ·
      have hi' : i < ss.length := by omega
      rw [drop_cons hi'] at hE
      refine C.skip <| X.next <| C.seq <| C.block <| C.seq <| C.region <| ?_
      refine E.get (k := i) rfl rfl (hM.arg0 hq) rfl (by omega) Try.underlying67 (by kernel_rfl) Try.underlying3 rfl rfl rfl ?_
      refine E.asg rfl rfl <| E.nil <| X.next <| C.seq <| ?_

      refine C.chainE [(0, _), (6, _), (8, _), (10, _), (21, _), (22, _), (23, _)] rfl [(34, .bool (decide (ss[i] < 0 ∨ (l.length : Int) ≤ ss[i])))] ?_ ?_
      ·
        refine C.region <| E.mv rfl rfl <| E.bin rfl rfl rfl rfl <| E.mv rfl rfl <| ?_
        refine E.split 29 rfl (fun g29 => ?_) (fun g29 => ?_)
        ·
          try simp only [decide_eq_true_eq, decide_eq_false_iff_not, ne_eq, Decidable.not_not, Bool.not_eq_true', Bool.not_eq_false'] at g29
          refine E.off rfl rfl rfl rfl <| E.off rfl rfl rfl rfl <| E.off rfl rfl rfl rfl <| E.off rfl rfl rfl rfl <| E.pick rfl rfl rfl <| E.nil <| X.join0 (Sub.cons (by (first | exact leaf_f (by omega) | exact leaf_t (by omega) | exact leaf_d (by omega) | exact leaf_f (by first | (simp [*] <;> fail) | omega) | exact leaf_t (by first | (simp [*] <;> fail) | omega) | exact leaf_d (by first | (simp [*] <;> fail) | omega) | exact leaf_f (by (first | omega | ((try simp only [decide_eq_true_eq, decide_eq_false_iff_not, Bool.not_eq_true', Bool.not_eq_false'] at *); first | omega | (simp_all <;> fail) | (simp_all; omega)))) | exact leaf_t (by (first | omega | ((try simp only [decide_eq_true_eq, decide_eq_false_iff_not, Bool.not_eq_true', Bool.not_eq_false'] at *); first | omega | (simp_all <;> fail) | (simp_all; omega)))) | exact leaf_d (by (first | omega | ((try simp only [decide_eq_true_eq, decide_eq_false_iff_not, Bool.not_eq_true', Bool.not_eq_false'] at *); first | omega | (simp_all <;> fail) | (simp_all; omega)))))) <| Sub.nil _) rfl rfl
        ·
          try simp only [decide_eq_true_eq, decide_eq_false_iff_not, ne_eq, Decidable.not_not, Bool.not_eq_true', Bool.not_eq_false'] at g29
          refine E.on rfl rfl (E.mv rfl rfl ?_)
          refine E.on rfl rfl (E.mv rfl rfl ?_)
          refine E.on rfl rfl (E.lenv rfl (Rd.shape (hM.arg0 hr')) Try.underlying67 rfl ?_)
          rw [nz_len]
          refine E.on rfl rfl (E.bin rfl rfl rfl rfl ?_)
          refine E.pick rfl rfl rfl <| E.nil <| X.join0 (Sub.cons (by (first | exact leaf_f (by omega) | exact leaf_t (by omega) | exact leaf_d (by omega) | exact leaf_f (by first | (simp [*] <;> fail) | omega) | exact leaf_t (by first | (simp [*] <;> fail) | omega) | exact leaf_d (by first | (simp [*] <;> fail) | omega) | exact leaf_f (by (first | omega | ((try simp only [decide_eq_true_eq, decide_eq_false_iff_not, Bool.not_eq_true', Bool.not_eq_false'] at *); first | omega | (simp_all <;> fail) | (simp_all; omega)))) | exact leaf_t (by (first | omega | ((try simp only [decide_eq_true_eq, decide_eq_false_iff_not, Bool.not_eq_true', Bool.not_eq_false'] at *); first | omega | (simp_all <;> fail) | (simp_all; omega)))) | exact leaf_d (by (first | omega | ((try simp only [decide_eq_true_eq, decide_eq_false_iff_not, Bool.not_eq_true', Bool.not_eq_false'] at *); first | omega | (simp_all <;> fail) | (simp_all; omega)))))) <| Sub.nil _) rfl rfl
      refine C.cond' rfl (fun hC2 => ?_) (fun hC2 => ?_)
      ·
        rw [ecv, if_pos hC2] at hE
        refine C.seq <| C.region <| E.asg rfl rfl <| E.asg rfl rfl <| E.nil <| X.next <| C.ret <| X.retT <| X.retB <| X.retT <| X.retT <| X.retB <| X.retT <| ret2 rfl rfl rfl ?_
        exact ⟨_, by rw [hev, hE], by rw [hev, hE]; exact (hM.nil Value.bool 4).pick [2] (by decide)⟩
      ·
        have hs0 : ¬ (ss[i] < 0 ∨ (l.length : Int) ≤ ss[i]) := by omega
        obtain ⟨s, hs⟩ : ∃ s : Nat, ss[i] = (s : Int) := ⟨ss[i].toNat, by omega⟩
        have hsl : s < l.length := by omega
        have hbs := hb l[s] (List.getElem_mem hsl)
        have hcb := code_big hb hkr s
        have hgd := Pf.getD_eq hsl
        have hcl := cdl_len l
        rw [ecv, if_neg hs0, hs, Int.toNat_natCast, hgd] at hE
        rw [hs]
        refine C.skip <| X.next <| C.seq <| C.region <| E.mv rfl rfl <| E.mv rfl rfl <| ?_
        refine E.get (k := s) rfl rfl (hM.arg0 hr') rfl (by omega) Try.underlying67 (by kernel_rfl) Try.underlying3 rfl rfl rfl ?_
        rw [nz_get hsl]
        refine E.asg rfl rfl <| E.nil <| X.next <| C.seq <| C.seq <| C.region <| E.mv rfl rfl <| E.bin rfl rfl rfl rfl <| E.nil <| X.next <| ?_
        refine C.cond' rfl (fun hC3 => ?_) (fun hC3 => ?_)
        ·
          rw [if_pos (by omega)] at hE
          refine C.seq <| C.region <| E.asg rfl rfl <| E.asg rfl rfl <| E.nil <| X.next <| C.ret <| X.retT <| X.retB <| X.retT <| X.retT <| X.retB <| X.retT <| ret2 rfl rfl rfl ?_
          exact ⟨_, by rw [hev, hE], by rw [hev, hE]; exact (hM.nil Value.bool 4).pick [2] (by decide)⟩
        ·
          rw [if_neg (by omega)] at hE
          refine C.skip <| X.next <| C.seq <| C.seq <| C.region <| E.mv rfl rfl <| ?_
          refine E.lenv rfl (Rd.shape (hM.sl 1 rfl)) Try.underlying76 rfl ?_
          refine E.mv rfl rfl <| ?_
          refine E.addN rfl rfl (by omega) rfl ?_
          refine E.bin rfl rfl rfl rfl <| E.nil <| X.next <| ?_
          refine C.cond' rfl (fun hC4 => ?_) (fun hC4 => ?_)
          ·
            rw [if_pos (by omega)] at hE
            refine C.seq <| C.region <| E.asg rfl rfl <| E.asg rfl rfl <| E.nil <| X.next <| C.ret <| X.retT <| X.retB <| X.retT <| X.retT <| X.retB <| X.retT <| ret2 rfl rfl rfl ?_
            exact ⟨_, by rw [hev, hE], by rw [hev, hE]; exact (hM.nil Value.bool 4).pick [2] (by decide)⟩
          ·
            rw [if_neg (by omega)] at hE
            refine C.skip <| X.next <| C.seq <| C.region <| E.mv rfl rfl <| ?_
            refine E.sub' rfl rfl (by omega) rfl ?_
            refine E.asg rfl rfl <| E.nil <| X.next <| C.block <| ?_

            refine C.loop2 [(0, _), (6, _), (10, _), (21, _), (22, _), (23, _)] rfl (fun (j : Nat) (vb : Value) => [(8, vb), (12, i64 ((l[s] : Int) - 1 - j))]) (fun (j : Nat) (vb : Value) w' => M w (Nn) w' [Rg.sl i64 3 v15 (Pf.cdl l), Rg.sl Value.bool 4 vb (b ++ tab j (bt (Pf.code l s) l[s]))] ∧ j ≤ l[s]) (fun (j : Nat) (vb : Value) => l[s] - j) 0 vb ?_ ?_ ?_
            · exact Sub.cons rfl <| Sub.cons (look_val rfl (by omega)) <| Sub.nil _
            · exact ⟨hM.to (by rw [tab_zero, List.append_nil]), Nat.zero_le _⟩
            rintro j vb w2 ⟨hM, hj⟩
            refine C.seq <| C.seq <| C.region <| E.mv rfl rfl <| E.bin rfl rfl rfl rfl <| E.nil <| X.next <| ?_
            refine C.cond' rfl (fun hC5 => ?_) (fun hC5 => ?_)
            ·
              have hjn : j < l[s] := by omega
              have e9 : (l[s] : Int) - 1 - j = ((l[s] - 1 - j : Nat) : Int) := by omega
              rw [e9]
              have hdv : Pf.code l s / 2 ^ (l[s] - 1 - j) ≤ Pf.code l s := Nat.div_le_self _ _
              refine C.skip <| X.next <| C.seq <| C.block <| C.region <| E.mv rfl rfl <| E.mv rfl rfl <| E.mv rfl rfl <| ?_
              refine E.get (k := s) rfl rfl (hM.sl 0 rfl) rfl (by omega) Try.underlying67 (by kernel_rfl) Try.underlying3 rfl rfl rfl ?_
              rw [cdl_get]
              refine E.mv rfl rfl <| ?_
              refine E.shr rfl rfl (by omega) (shr_nat (by omega)) rfl ?_
              refine E.binw rfl rfl rfl (congrArg _ (band1 _ (by omega))) rfl ?_
              refine E.bin rfl rfl rfl rfl <| ?_
              refine E.pushM (enc := Value.bool) 1 (bt (Pf.code l s) l[s] j) hM rfl rfl (look_eq rfl (by unfold bt; congr 1; apply decide_eq_decide.2; omega)) Try.underlying76 elem_Tbool rfl (by simp [tab_len]; omega) (by simp [tab_len]; omega) (by simp) rfl rfl ?_
              intro v62 u62 w3 hM
              try dsimp only [List.nil_append, List.cons_append, List.set_cons_zero, List.set_cons_succ, repl] at hM
              refine E.asg rfl rfl <| E.nil <| X.outN <| X.next <| C.region <| E.mv rfl rfl <| ?_
              refine E.sub' rfl rfl (by omega) rfl ?_

              refine E.asg rfl rfl <| E.nil <| X.again2 (j + 1) v62 (Sub.cons rfl <| Sub.cons (look_val rfl (by omega)) <| Sub.nil _) rfl ⟨hM.to (by rw [tab_succ, List.append_assoc]), by omega⟩ (by omega)
            ·
              obtain rfl : j = l[s] := by omega
              refine C.exit <| X.exitT <| X.exitT <| X.outE <| X.outN <| X.next <| C.region <| ?_
              refine E.add rfl rfl (by omega) rfl ?_

              refine E.mv rfl rfl <| E.nil <| X.again3 (i + 1) (b ++ btv (Pf.code l s) l[s]) vb (Sub.cons rfl <| Sub.cons rfl <| Sub.nil _) rfl ⟨hM, by omega, by rw [List.length_append, btv_len]; omega, hE⟩ (by omega)
    ·
      obtain rfl : i = ss.length := by omega
      rw [List.drop_length, ecv] at hE
      refine C.exit <| X.exitT <| X.exitT <| X.outE <| X.next <| C.seq <| C.region <| E.mv rfl rfl <| E.asg rfl rfl <| E.asg rfl rfl <| E.nil <| X.next <| C.ret <| ret2 rfl rfl rfl ?_
      exact ⟨_, by rw [hev, hE], by rw [hev, hE]; exact hM.pick [1] (by decide)⟩

set_option maxHeartbeats 1000000 in
theorem rEncode_ret (p q : Value) (zs ss : List Int) (w : World) (hr : RdL i64 w p zs) (hq : RdL i64 w q ss) :
    Ret Try.prog 43 #[p, q] w fun v w' => ∃ vo, v = .tuple #[vo, i64 (env zs ss).2] ∧ M w Nn w' [Rg.sl Value.bool 4 vo (env zs ss).1] := by
  have hM := M.start w
  refine enter Try.func43 rfl (by kernel_rfl) Try.ntmps43 rfl ?_
  refine C.seq <| C.region <| E.asg rfl rfl <| E.asg rfl rfl <| E.nil <| X.next <| C.seq <| C.region <| E.mv rfl rfl <| ?_
  refine E.call rfl rfl (rCodes_ret p zs _ (hM.arg0 hr)) ?_
  rintro _ w1 ⟨v15, rfl, m⟩
  have hM := hM.call m
  try dsimp only [List.nil_append, List.cons_append, List.set_cons_zero, List.set_cons_succ, repl] at hM
  refine E.mv rfl rfl <| E.ext rfl rfl rfl <| E.ext rfl rfl rfl <| E.asg rfl rfl <| E.asg rfl rfl <| E.nil <| X.next <| C.seq <| C.seq <| C.region <| E.mv rfl rfl <| E.bin rfl rfl rfl rfl <| E.nil <| X.next <| ?_
  refine C.cond' rfl (fun hC0 => ?_) (fun hC0 => ?_)
  ·
    refine C.seq <| C.region <| E.mv rfl rfl <| E.asg rfl rfl <| E.asg rfl rfl <| E.nil <| X.next <| C.ret <| X.retT <| ret2 rfl rfl rfl ?_
    exact ⟨_, by rw [env_bad hC0], by rw [env_bad hC0]; exact (hM.nil Value.bool 4).pick [1] (by decide)⟩
  ·
    have hck := Decidable.byContradiction hC0
    obtain ⟨hl4, hok, hkr⟩ := ckv_ok hck
    obtain ⟨hr', hb⟩ := ok_kr hr hok
    have hlz := toN_len zs
    rw [cdv, if_pos hck] at hM
    have hev := env_ok (ss := ss) hck
    obtain ⟨l, hl⟩ : ∃ l, l = toN zs := ⟨_, rfl⟩
    rw [← hl] at hr' hb hkr hlz hM hev
    have hnl := nz_len l
    have hle := Rd.le hq
    have hM := hM.nil Value.bool 4
    try dsimp only [List.nil_append, List.cons_append, List.set_cons_zero, List.set_cons_succ, repl] at hM
    refine C.skip <| X.next <| C.seq <| C.region <| E.asg rfl rfl <| E.nil <| X.next <| C.seq <| C.seq <| C.region <| E.asg rfl rfl <| E.nil <| X.next <| C.block <| ?_

    refine C.loop3 [(0, _), (1, _), (6, _)] rfl (fun (i : Nat) (b : (List Bool)) (vb : Value) => [(8, vb), (9, i64 i)]) (fun (i : Nat) (b : (List Bool)) (vb : Value) w' => M w (Nn) w' [Rg.sl i64 3 v15 (Pf.cdl l), Rg.sl Value.bool 4 vb b] ∧ i ≤ ss.length ∧ b.length ≤ 1048576 ∧ ecv l [] ss = ecv l b (ss.drop i)) (fun (i : Nat) (b : (List Bool)) (vb : Value) => ss.length - i) 0 [] nilI ?_ ?_ ?_
    · exact Sub.cons rfl <| Sub.cons rfl <| Sub.nil _
    · exact ⟨hM, Nat.zero_le _, by simp, rfl⟩
    rintro i b vb w1 ⟨hM, hi, hbl, hE⟩
    refine C.seq <| C.seq <| C.region <| E.mv rfl rfl <| E.mv rfl rfl <| ?_
    refine E.lenv rfl (Rd.shape (hM.arg0 hq)) Try.underlying67 rfl ?_
    refine E.bin rfl rfl rfl rfl <| E.nil <| X.next <| ?_
    refine C.cond' rfl (fun hC1 => ?_) (fun hC1 => ?_)
    ·
      have hi' : i < ss.length := by omega
      rw [drop_cons hi'] at hE
      refine C.skip <| X.next <| C.seq <| C.block <| C.seq <| C.region <| E.mv rfl rfl <| E.mv rfl rfl <| ?_
      refine E.get (k := i) rfl rfl (hM.arg0 hq) rfl (by omega) Try.underlying67 (by kernel_rfl) Try.underlying3 rfl rfl rfl ?_
      refine E.asg rfl rfl <| E.nil <| X.next <| C.seq <| ?_

      refine C.chainE [(0, _), (1, _), (6, _), (8, _), (9, _), (10, _)] rfl [(38, .bool (decide (ss[i] < 0 ∨ (l.length : Int) ≤ ss[i])))] ?_ ?_
      ·
        refine C.region <| E.mv rfl rfl <| E.bin rfl rfl rfl rfl <| E.mv rfl rfl <| ?_
        refine E.split 33 rfl (fun g33 => ?_) (fun g33 => ?_)
        ·
          try simp only [decide_eq_true_eq, decide_eq_false_iff_not, ne_eq, Decidable.not_not, Bool.not_eq_true', Bool.not_eq_false'] at g33
          refine E.off rfl rfl rfl rfl <| E.off rfl rfl rfl rfl <| E.off rfl rfl rfl rfl <| E.off rfl rfl rfl rfl <| E.pick rfl rfl rfl <| E.nil <| X.join0 (Sub.cons (by (first | exact leaf_f (by omega) | exact leaf_t (by omega) | exact leaf_d (by omega) | exact leaf_f (by first | (simp [*] <;> fail) | omega) | exact leaf_t (by first | (simp [*] <;> fail) | omega) | exact leaf_d (by first | (simp [*] <;> fail) | omega) | exact leaf_f (by (first | omega | ((try simp only [decide_eq_true_eq, decide_eq_false_iff_not, Bool.not_eq_true', Bool.not_eq_false'] at *); first | omega | (simp_all <;> fail) | (simp_all; omega)))) | exact leaf_t (by (first | omega | ((try simp only [decide_eq_true_eq, decide_eq_false_iff_not, Bool.not_eq_true', Bool.not_eq_false'] at *); first | omega | (simp_all <;> fail) | (simp_all; omega)))) | exact leaf_d (by (first | omega | ((try simp only [decide_eq_true_eq, decide_eq_false_iff_not, Bool.not_eq_true', Bool.not_eq_false'] at *); first | omega | (simp_all <;> fail) | (simp_all; omega)))))) <| Sub.nil _) rfl rfl
        ·
          try simp only [decide_eq_true_eq, decide_eq_false_iff_not, ne_eq, Decidable.not_not, Bool.not_eq_true', Bool.not_eq_false'] at g33
          refine E.on rfl rfl (E.mv rfl rfl ?_)
          refine E.on rfl rfl (E.mv rfl rfl ?_)
          refine E.on rfl rfl (E.lenv rfl (Rd.shape (hM.arg0 hr')) Try.underlying67 rfl ?_)
          rw [nz_len]
          refine E.on rfl rfl (E.bin rfl rfl rfl rfl ?_)
          refine E.pick rfl rfl rfl <| E.nil <| X.join0 (Sub.cons (by (first | exact leaf_f (by omega) | exact leaf_t (by omega) | exact leaf_d (by omega) | exact leaf_f (by first | (simp [*] <;> fail) | omega) | exact leaf_t (by first | (simp [*] <;> fail) | omega) | exact leaf_d (by first | (simp [*] <;> fail) | omega) | exact leaf_f (by (first | omega | ((try simp only [decide_eq_true_eq, decide_eq_false_iff_not, Bool.not_eq_true', Bool.not_eq_false'] at *); first | omega | (simp_all <;> fail) | (simp_all; omega)))) | exact leaf_t (by (first | omega | ((try simp only [decide_eq_true_eq, decide_eq_false_iff_not, Bool.not_eq_true', Bool.not_eq_false'] at *); first | omega | (simp_all <;> fail) | (simp_all; omega)))) | exact leaf_d (by (first | omega | ((try simp only [decide_eq_true_eq, decide_eq_false_iff_not, Bool.not_eq_true', Bool.not_eq_false'] at *); first | omega | (simp_all <;> fail) | (simp_all; omega)))))) <| Sub.nil _) rfl rfl
      refine C.cond' rfl (fun hC2 => ?_) (fun hC2 => ?_)
      ·
        rw [ecv, if_pos hC2] at hE
        refine C.seq <| C.region <| E.asg rfl rfl <| E.asg rfl rfl <| E.nil <| X.next <| C.ret <| X.retT <| X.retB <| X.retT <| X.retT <| X.retB <| X.retT <| ret2 rfl rfl rfl ?_
        exact ⟨_, by rw [hev, hE], by rw [hev, hE]; exact (hM.nil Value.bool 4).pick [2] (by decide)⟩
      ·
        have hs0 : ¬ (ss[i] < 0 ∨ (l.length : Int) ≤ ss[i]) := by omega
        obtain ⟨s, hs⟩ : ∃ s : Nat, ss[i] = (s : Int) := ⟨ss[i].toNat, by omega⟩
        have hsl : s < l.length := by omega
        have hbs := hb l[s] (List.getElem_mem hsl)
        have hcb := code_big hb hkr s
        have hgd := Pf.getD_eq hsl
        have hcl := cdl_len l
        rw [ecv, if_neg hs0, hs, Int.toNat_natCast, hgd] at hE
        rw [hs]
        refine C.skip <| X.next <| C.seq <| C.seq <| C.region <| E.mv rfl rfl <| E.mv rfl rfl <| ?_
        refine E.get (k := s) rfl rfl (hM.arg0 hr') rfl (by omega) Try.underlying67 (by kernel_rfl) Try.underlying3 rfl rfl rfl ?_
        rw [nz_get hsl]
        refine E.bin rfl rfl rfl rfl <| E.nil <| X.next <| ?_
        refine C.cond' rfl (fun hC3 => ?_) (fun hC3 => ?_)
        ·
          rw [if_pos (by omega)] at hE
          refine C.seq <| C.region <| E.asg rfl rfl <| E.asg rfl rfl <| E.nil <| X.next <| C.ret <| X.retT <| X.retB <| X.retT <| X.retT <| X.retB <| X.retT <| ret2 rfl rfl rfl ?_
          exact ⟨_, by rw [hev, hE], by rw [hev, hE]; exact (hM.nil Value.bool 4).pick [2] (by decide)⟩
        ·
          rw [if_neg (by omega)] at hE
          refine C.skip <| X.next <| C.seq <| C.heldM hM [0, 1] (by decide) (by kernel_rfl) fun wh2 hM hS => ?_
          refine H.take 0 rfl rfl (by kernel_rfl) (by kernel_rfl) (by kernel_rfl) hS (fun w' hM => Y.mv rfl) rfl ?_
          refine H.take 1 rfl rfl (by kernel_rfl) (by kernel_rfl) (by kernel_rfl) hS (fun w' hM => Y.mv rfl) rfl ?_
          refine H.take 2 rfl rfl (by kernel_rfl) (by kernel_rfl) (by kernel_rfl) hS (fun w' hM => Y.mv rfl) rfl ?_
          refine H.takeV 3 rfl rfl (by kernel_rfl) (by kernel_rfl) (by kernel_rfl) hS (Y.idx1 (k := s) rfl rfl (hM.sl 0 rfl) rfl (by omega) Try.underlying67 (by kernel_rfl)) (fun w' hM => Y.idx1 (k := s) rfl rfl (hM.sl 0 rfl) rfl (by omega) Try.underlying67 (by kernel_rfl)) rfl ?_
          refine H.take 5 rfl rfl (by kernel_rfl) (by kernel_rfl) (by kernel_rfl) hS (fun w' hM => Y.mv rfl) rfl ?_
          refine H.take 6 rfl rfl (by kernel_rfl) (by kernel_rfl) (by kernel_rfl) hS (fun w' hM => Y.mv rfl) rfl ?_
          refine H.takeV 7 rfl rfl (by kernel_rfl) (by kernel_rfl) (by kernel_rfl) hS (Y.idx1 (k := s) rfl rfl (hM.arg0 hr') rfl (by omega) Try.underlying67 (by kernel_rfl)) (fun w' hM => Y.idx1 (k := s) rfl rfl (hM.arg0 hr') rfl (by omega) Try.underlying67 (by kernel_rfl)) rfl ?_
          refine H.takeV 4 rfl rfl (by kernel_rfl) (by kernel_rfl) (by kernel_rfl) hS (Y.load rfl Try.underlying3 rfl ((hM.sl 0 rfl).cell (by omega))) (fun w' hM => Y.load rfl Try.underlying3 rfl ((hM.sl 0 rfl).cell (by omega))) rfl ?_
          rw [cdl_get]
          refine H.only 8 rfl (by kernel_rfl) ?_
          refine E.load rfl Try.underlying3 rfl ((hM.arg0 hr').cell (by omega)) rfl ?_
          rw [nz_get hsl]
          have hS := hM.pick [0, 1] (by decide)
          refine H.back hS ?_
          refine H.only 9 rfl (by kernel_rfl) ?_
          refine E.call rfl rfl (rAppend_ret vb b (Pf.code l s) l[s] _ (hM.sl 1 rfl) hbs hcb) ?_
          rintro _ w2 ⟨v54, rfl, m⟩
          have hM := hM.call m
          try dsimp only [List.nil_append, List.cons_append, List.set_cons_zero, List.set_cons_succ, repl] at hM
          have hS := hM.pick [0, 1] (by decide)
          refine H.back hS ?_
          refine H.take 10 rfl rfl (by kernel_rfl) (by kernel_rfl) (by kernel_rfl) hS (fun w' hM => Y.mv rfl) rfl ?_
          refine H.take 11 rfl rfl (by kernel_rfl) (by kernel_rfl) (by kernel_rfl) hS (fun w' hM => Y.ext rfl rfl) rfl ?_
          refine H.take 12 rfl rfl (by kernel_rfl) (by kernel_rfl) (by kernel_rfl) hS (fun w' hM => Y.ext rfl rfl) rfl ?_
          refine H.take 13 rfl rfl (by kernel_rfl) (by kernel_rfl) (by kernel_rfl) hS (fun w' hM => Y.asg rfl) rfl ?_
          refine H.take 14 rfl rfl (by kernel_rfl) (by kernel_rfl) (by kernel_rfl) hS (fun w' hM => Y.asg rfl) rfl ?_
          refine H.done (by kernel_rfl) ?_
          refine X.next <| C.seq <| C.seq <| C.region <| E.mv rfl rfl <| E.bin rfl rfl rfl rfl <| E.nil <| X.next <| ?_
          refine C.cond' rfl (fun hC4 => ?_) (fun hC4 => ?_)
          ·
            have hlg : 1048576 < b.length + l[s] := by by_cases h : 1048576 < b.length + l[s]; exact h; rw [if_neg h] at hC4; exact (hC4 rfl).elim
            rw [if_pos hlg] at hE
            refine C.seq <| C.region <| E.mv rfl rfl <| E.asg rfl rfl <| E.asg rfl rfl <| E.nil <| X.next <| C.ret <| X.retT <| X.retB <| X.retT <| X.retT <| X.retB <| X.retT <| ret2 rfl rfl rfl ?_
            exact ⟨_, by rw [hev, hE, if_pos hlg], by rw [hev, hE]; exact (hM.nil Value.bool 4).pick [3] (by decide)⟩
          ·
            have hlg : ¬ 1048576 < b.length + l[s] := by intro h; rw [if_pos h] at hC4; exact absurd hC4 (by decide)
            rw [if_neg hlg] at hE hM
            refine C.skip <| X.next <| C.region <| E.mv rfl rfl <| E.asg rfl rfl <| E.nil <| X.outN <| X.next <| C.region <| E.mv rfl rfl <| ?_
            refine E.add rfl rfl (by omega) rfl ?_

            refine E.asg rfl rfl <| E.nil <| X.again3 (i + 1) (b ++ btv (Pf.code l s) l[s]) v54 (Sub.cons rfl <| Sub.cons rfl <| Sub.nil _) rfl ⟨hM.pick [0, 2] (by decide), by omega, by rw [List.length_append, btv_len]; omega, hE⟩ (by omega)
    ·
      obtain rfl : i = ss.length := by omega
      rw [List.drop_length, ecv] at hE
      refine C.exit <| X.exitT <| X.exitT <| X.outE <| X.next <| C.seq <| C.region <| E.mv rfl rfl <| E.asg rfl rfl <| E.asg rfl rfl <| E.nil <| X.next <| C.ret <| ret2 rfl rfl rfl ?_
      exact ⟨_, by rw [hev, hE], by rw [hev, hE]; exact hM.pick [1] (by decide)⟩

end Go.Proofs.Ytdcgmkoonanpgaa
