/- Texts of the claim, laid together: Fd2. -/
import Derived.Test.Ytbinlkobmlebpaax0
import Derived.Test.Ytbinlkobmlebpaax5
set_option linter.unusedSimpArgs false
set_option linter.unusedVariables false
namespace Go.Proofs.Ytbinlkobmlebpaa
open Go.RowKit Sym
theorem elem_Tar3_int : Elem Try.prog 31 3 24 := elem_of (z := .agg #[.int .i64 0, .int .i64 0, .int .i64 0]) (by kernel_rfl) rfl (by decide)
open Fi
def tec (t : Nat × Nat × Nat) : List Value := [i64 (t.1 : Nat), i64 (t.2.1 : Nat), i64 (t.2.2 : Nat)]
theorem getD_of {α : Type} {l : List α} {k : Nat} {z : α} (h : k < l.length) : l.getD k z = l[k] := by rw [List.getD_eq_getElem?_getD, List.getElem?_eq_getElem h]; rfl
theorem okT_t {l : List Mk} {c r d : Nat} (hc : c < l.length) (hr : r < l.length) (hd : d < l.length) (h : c ≠ r ∧ c ≠ d ∧ r ≠ d ∧ tri l[c] l[r] l[d]) : okT l c r d = some (c, r, d) := by
 unfold okT; rw [getD_of hc, getD_of hr, getD_of hd, if_pos h]
theorem okT_f {l : List Mk} {c r d : Nat} (hc : c < l.length) (hr : r < l.length) (hd : d < l.length) (h : ¬ (c ≠ r ∧ c ≠ d ∧ r ≠ d ∧ tri l[c] l[r] l[d])) : okT l c r d = none := by
 unfold okT; rw [getD_of hc, getD_of hr, getD_of hd, if_neg h]
theorem t3_small {l : List Mk} (h : l.length ≤ 256) {c r d : Nat} (hc : c < l.length) (hr : r < l.length) (hd : d < l.length) : (t3 l c r d).length ≤ 16777216 := by
 have h1 := t3_len l c r d
 have h2 : (c * l.length + r) * l.length ≤ 65535 * 256 := Nat.mul_le_mul (by
  have : c * l.length ≤ 255 * 256 := Nat.mul_le_mul (by omega) h
  omega) h
 omega
def TrsV (w w' : World) (v : Value) (l : List Mk) : Prop :=
 (256 < l.length ∧ v = .tuple #[nls, i64 4] ∧ Ext w w') ∨ (l.length ≤ 256 ∧ (¬ ∀ m ∈ l, mok m) ∧ v = .tuple #[nls, i64 3] ∧ Ext w w') ∨
 (l.length ≤ 256 ∧ (∀ m ∈ l, mok m) ∧ ∃ vt, v = .tuple #[vt, i64 0] ∧ M w Nn w' [Rg.slF tec 3 31 vt (trs l)])
set_option maxHeartbeats 1000000 in
theorem Triples_ret (p : Value) (l : List Mk) (w : World) (hp : RdF mkc 4 w p l) :
  Ret Try.prog 9 #[p] w fun v w' => TrsV w w' v l := by
 have hM := M.start w
 refine enter Try.func9 rfl (by kernel_rfl) Try.ntmps9 rfl ?_
 refine C.seq <| C.region <| E.asg rfl rfl <| E.asg rfl rfl <| E.nil <| X.next <| C.seq <| C.seq <| C.region <| E.mv rfl rfl <| ?_
 refine E.lenv rfl (RdF.shape (by exact hM.argF0 (by assumption))) Try.underlying22 rfl ?_
 refine E.bin rfl rfl rfl rfl <| E.nil <| X.next <| ?_
 refine C.cond' rfl (fun hC0 => ?_) (fun hC0 => ?_)
 ·
  refine C.seq <| C.region <| E.asg rfl rfl <| E.asg rfl rfl <| E.nil <| X.next <| C.ret <| X.retT <| ret2 rfl rfl rfl ?_
  exact .inl ⟨by omega, rfl, hM.toExt⟩
 ·
  refine C.skip <| X.next <| C.seq <| C.seq <| C.region <| E.mv rfl rfl <| ?_
  refine E.call rfl rfl (check_ret p l _ (hM.argF0 hp)) ?_
  rintro _ w0 ⟨rfl, x0⟩
  have hM := hM.ext x0
  try dsimp only [Za, Zb, Zc, Zd, repl] at hM
  refine E.asg rfl rfl <| E.nil <| X.next <| C.seq <| C.region <| E.mv rfl rfl <| E.bin rfl rfl rfl rfl <| E.nil <| X.next <| ?_
  refine C.cond' rfl (fun hC1 => ?_) (fun hC1 => ?_)
  ·
   have hno : ¬ ∀ m ∈ l, mok m := fun h => by rw [if_pos h] at hC1; exact hC1 rfl
   refine C.seq <| C.region <| E.mv rfl rfl <| E.asg rfl rfl <| E.asg rfl rfl <| E.nil <| X.next <| C.ret <| X.retT <| ret2 rfl rfl rfl ?_
   exact (by rw [if_neg hno]; exact .inr (.inl ⟨by omega, hno, rfl, hM.toExt⟩))
  ·
   have hal : ∀ m ∈ l, mok m := Decidable.byContradiction fun h => by rw [if_neg h] at hC1; exact hC1 (by decide)
   refine C.skip <| X.next <| C.seq <| C.region <| E.asg rfl rfl <| E.nil <| X.next <| C.seq <| C.seq <| C.region <| E.mv rfl rfl <| ?_
   refine E.lenv rfl (RdF.shape (by exact hM.argF0 (by assumption))) Try.underlying22 rfl ?_
   refine E.mv rfl rfl <| E.nil <| X.next <| C.block <| ?_
   have hM := hM.nilF tec 3 31
   try dsimp only [Za, Zb, Zc, Zd, repl] at hM

   refine C.loop2 [(0, _), (18, _)] rfl (fun (c : Nat) (vt : Value) => [(5, vt), (19, i64 c)]) (fun (c : Nat) (vt : Value) w' => M w (Nn) w' [Rg.slF tec 3 31 vt (t3 l c 0 0)] ∧ c ≤ l.length) (fun (c : Nat) (vt : Value) => l.length - c) 0 nls ?_ ?_ ?_
   · exact Sub.cons rfl <| Sub.cons rfl <| Sub.nil _
   · exact ⟨hM, Nat.zero_le _⟩
   rintro c vt w1 ⟨hM, hc⟩
   refine C.seq <| C.region <| E.bin rfl rfl rfl rfl <| E.nil <| X.next <| C.seq <| ?_
   refine C.cond' rfl (fun hC2 => ?_) (fun hC2 => ?_)
   ·
    have hc' : c < l.length := by omega
    refine C.skip <| X.next <| C.seq <| C.block <| C.seq <| C.region <| E.mv rfl rfl <| E.asg rfl rfl <| E.nil <| X.next <| C.seq <| C.region <| E.mv rfl rfl <| ?_
    refine E.lenv rfl (RdF.shape (by exact hM.argF0 (by assumption))) Try.underlying22 rfl ?_
    refine E.mv rfl rfl <| E.nil <| X.next <| C.block <| ?_

    refine C.loop2 [(0, _), (6, _), (18, _), (19, _), (23, _)] rfl (fun (r : Nat) (vt : Value) => [(5, vt), (24, i64 r)]) (fun (r : Nat) (vt : Value) w' => M w (Nn) w' [Rg.slF tec 3 31 vt (t3 l c r 0)] ∧ r ≤ l.length) (fun (r : Nat) (vt : Value) => l.length - r) 0 vt ?_ ?_ ?_
    · exact Sub.cons rfl <| Sub.cons rfl <| Sub.nil _
    · exact ⟨hM, Nat.zero_le _⟩
    rintro r vt w2 ⟨hM, hr⟩
    refine C.seq <| C.region <| E.bin rfl rfl rfl rfl <| E.nil <| X.next <| C.seq <| ?_
    refine C.cond' rfl (fun hC3 => ?_) (fun hC3 => ?_)
    ·
     have hr' : r < l.length := by omega
     refine C.skip <| X.next <| C.seq <| C.block <| C.seq <| C.region <| E.mv rfl rfl <| E.asg rfl rfl <| E.nil <| X.next <| C.seq <| C.region <| E.mv rfl rfl <| ?_
     refine E.lenv rfl (RdF.shape (by exact hM.argF0 (by assumption))) Try.underlying22 rfl ?_
     refine E.mv rfl rfl <| E.nil <| X.next <| C.block <| ?_

     refine C.loop2 [(0, _), (6, _), (7, _), (18, _), (19, _), (23, _), (24, _), (28, _)] rfl (fun (d : Nat) (vt : Value) => [(5, vt), (29, i64 d)]) (fun (d : Nat) (vt : Value) w' => M w (Nn) w' [Rg.slF tec 3 31 vt (t3 l c r d)] ∧ d ≤ l.length) (fun (d : Nat) (vt : Value) => l.length - d) 0 vt ?_ ?_ ?_
     · exact Sub.cons rfl <| Sub.cons rfl <| Sub.nil _
     · exact ⟨hM, Nat.zero_le _⟩
     rintro d vt w3 ⟨hM, hd⟩
     refine C.seq <| C.region <| E.bin rfl rfl rfl rfl <| E.nil <| X.next <| C.seq <| ?_
     refine C.cond' rfl (fun hC4 => ?_) (fun hC4 => ?_)
     ·
      have hd' : d < l.length := by omega
      have hsm := t3_small (by omega) hc' hr' hd'
      refine C.skip <| X.next <| ?_

      refine C.cut1 [(0, _), (6, _), (7, _), (18, _), (19, _), (23, _), (24, _), (28, _), (29, _)] rfl (fun (vt : Value) => [(5, vt)]) (fun (vt : Value) w' => M w (Nn) w' [Rg.slF tec 3 31 vt (t3 l c r (d + 1))]) ?_ ?_
      ·
       refine C.block <| C.seq <| C.region <| E.mv rfl rfl <| E.asg rfl rfl <| E.nil <| X.next <| ?_

       refine C.chainQ [(0, _), (5, _), (6, _), (7, _), (8, _), (18, _), (19, _), (23, _), (24, _), (28, _), (29, _)] rfl [(59, .bool (decide (c ≠ r ∧ c ≠ d ∧ r ≠ d ∧ tri l[c] l[r] l[d])))] ?_ ?_
       ·
        refine C.drawn (by kernel_rfl) (by kernel_rfl) <| Q.mv rfl rfl <| Q.mv rfl rfl <| Q.bin rfl rfl rfl rfl <| Q.mv rfl rfl <| ?_
        refine Q.split 35 rfl (fun g35 => ?_) (fun g35 => ?_)
        ·
         try simp only [Ya, Yb, Yc, Yd, Ye, Yf] at g35
         refine Q.on rfl rfl (Q.mv rfl rfl ?_)
         refine Q.on rfl rfl (Q.mv rfl rfl ?_)
         refine Q.on rfl rfl (Q.bin rfl rfl rfl rfl ?_)
         refine Q.pick rfl rfl rfl <| Q.mv rfl rfl <| ?_
         refine Q.split 40 rfl (fun g40 => ?_) (fun g40 => ?_)
         ·
          try simp only [Ya, Yb, Yc, Yd, Ye, Yf] at g40
          refine Q.on rfl rfl (Q.mv rfl rfl ?_)
          refine Q.on rfl rfl (Q.mv rfl rfl ?_)
          refine Q.on rfl rfl (Q.bin rfl rfl rfl rfl ?_)
          refine Q.pick rfl rfl rfl <| Q.mv rfl rfl <| ?_
          refine Q.split 45 rfl (fun g45 => ?_) (fun g45 => ?_)
          ·
           try simp only [Ya, Yb, Yc, Yd, Ye, Yf] at g45
           refine Q.on rfl rfl (Q.mv rfl rfl ?_)
           refine Q.on rfl rfl (Q.mv rfl rfl ?_)
           refine Q.on rfl rfl (Q.idxF (k := c) rfl rfl (hM.argF0 hp) rfl hc' (by decide) Try.underlying22 (by kernel_rfl) rfl ?_)
           refine Q.on rfl rfl (Q.loadA (cs := mkc l[c]) rfl Try.underlying24 rfl (by kernel_rfl) ((hM.argF0 hp).all hc') rfl ?_)
           refine Q.on rfl rfl (Q.mv rfl rfl ?_)
           refine Q.on rfl rfl (Q.mv rfl rfl ?_)
           refine Q.on rfl rfl (Q.idxF (k := r) rfl rfl (hM.argF0 hp) rfl hr' (by decide) Try.underlying22 (by kernel_rfl) rfl ?_)
           refine Q.on rfl rfl (Q.loadA (cs := mkc l[r]) rfl Try.underlying24 rfl (by kernel_rfl) ((hM.argF0 hp).all hr') rfl ?_)
           refine Q.on rfl rfl (Q.mv rfl rfl ?_)
           refine Q.on rfl rfl (Q.mv rfl rfl ?_)
           refine Q.on rfl rfl (Q.idxF (k := d) rfl rfl (hM.argF0 hp) rfl hd' (by decide) Try.underlying22 (by kernel_rfl) rfl ?_)
           refine Q.on rfl rfl (Q.loadA (cs := mkc l[d]) rfl Try.underlying24 rfl (by kernel_rfl) ((hM.argF0 hp).all hd') rfl ?_)
           refine Q.on rfl rfl (Q.call (v := .bool (decide (tri l[c] l[r] l[d]))) rfl rfl (fun w' hw' => triple_ret _ _ _ w' (hal _ (List.getElem_mem hc')) (hal _ (List.getElem_mem hr')) (hal _ (List.getElem_mem hd'))) ?_)
           refine Q.pick rfl rfl rfl <| Q.nil <| fun w4 hx4 => ?_
           refine X.join0 (Sub.cons (look_eq rfl (congrArg Value.bool (by exact decide_eq_decide.2 ⟨fun h => ⟨by omega, by omega, by omega, h⟩, fun h => h.2.2.2⟩))) <| Sub.nil _) rfl hx4
          ·
           try simp only [Ya, Yb, Yc, Yd, Ye, Yf] at g45
           refine Q.off rfl rfl rfl rfl <| Q.off rfl rfl rfl rfl <| Q.off rfl rfl rfl rfl <| Q.off rfl rfl rfl rfl <| Q.off rfl rfl rfl rfl <| Q.off rfl rfl rfl rfl <| Q.off rfl rfl rfl rfl <| Q.off rfl rfl rfl rfl <| Q.off rfl rfl rfl rfl <| Q.off rfl rfl rfl rfl <| Q.off rfl rfl rfl rfl <| Q.off rfl rfl rfl rfl <| Q.off rfl rfl rfl rfl <| Q.pick rfl rfl rfl <| Q.nil <| fun w5 hx5 => ?_
           refine X.join0 (Sub.cons (look_eq rfl (congrArg Value.bool (by exact (decide_eq_false (p := c ≠ r ∧ c ≠ d ∧ r ≠ d ∧ tri l[c] l[r] l[d]) (fun h => by omega)).symm))) <| Sub.nil _) rfl hx5
         ·
          try simp only [Ya, Yb, Yc, Yd, Ye, Yf] at g40
          refine Q.off rfl rfl rfl rfl <| Q.off rfl rfl rfl rfl <| Q.off rfl rfl rfl rfl <| Q.pick rfl rfl rfl <| Q.mv rfl rfl <| Q.off rfl rfl rfl rfl <| Q.off rfl rfl rfl rfl <| Q.off rfl rfl rfl rfl <| Q.off rfl rfl rfl rfl <| Q.off rfl rfl rfl rfl <| Q.off rfl rfl rfl rfl <| Q.off rfl rfl rfl rfl <| Q.off rfl rfl rfl rfl <| Q.off rfl rfl rfl rfl <| Q.off rfl rfl rfl rfl <| Q.off rfl rfl rfl rfl <| Q.off rfl rfl rfl rfl <| Q.off rfl rfl rfl rfl <| Q.pick rfl rfl rfl <| Q.nil <| fun w6 hx6 => ?_
          refine X.join0 (Sub.cons (look_eq rfl (congrArg Value.bool (by exact (decide_eq_false (p := c ≠ r ∧ c ≠ d ∧ r ≠ d ∧ tri l[c] l[r] l[d]) (fun h => by omega)).symm))) <| Sub.nil _) rfl hx6
        ·
         try simp only [Ya, Yb, Yc, Yd, Ye, Yf] at g35
         refine Q.off rfl rfl rfl rfl <| Q.off rfl rfl rfl rfl <| Q.off rfl rfl rfl rfl <| Q.pick rfl rfl rfl <| Q.mv rfl rfl <| Q.off rfl rfl rfl rfl <| Q.off rfl rfl rfl rfl <| Q.off rfl rfl rfl rfl <| Q.pick rfl rfl rfl <| Q.mv rfl rfl <| Q.off rfl rfl rfl rfl <| Q.off rfl rfl rfl rfl <| Q.off rfl rfl rfl rfl <| Q.off rfl rfl rfl rfl <| Q.off rfl rfl rfl rfl <| Q.off rfl rfl rfl rfl <| Q.off rfl rfl rfl rfl <| Q.off rfl rfl rfl rfl <| Q.off rfl rfl rfl rfl <| Q.off rfl rfl rfl rfl <| Q.off rfl rfl rfl rfl <| Q.off rfl rfl rfl rfl <| Q.off rfl rfl rfl rfl <| Q.pick rfl rfl rfl <| Q.nil <| fun w7 hx7 => ?_
         refine X.join0 (Sub.cons (look_eq rfl (congrArg Value.bool (by exact (decide_eq_false (p := c ≠ r ∧ c ≠ d ∧ r ≠ d ∧ tri l[c] l[r] l[d]) (fun h => by omega)).symm))) <| Sub.nil _) rfl hx7
       intro w8 hx8
       have hM := hM.ext hx8
       refine C.cond' rfl (fun hC5 => ?_) (fun hC5 => ?_)
       ·
        refine C.region <| E.mv rfl rfl <| E.mv rfl rfl <| E.mv rfl rfl <| E.mv rfl rfl <| ?_
        refine E.build (cs := tec (c, r, d)) rfl (by kernel_rfl) rfl ?_
        refine E.pushFM 0 (c, r, d) hM rfl rfl rfl Try.underlying27 elem_Tar3_int rfl (by decide) (ones rfl <| ones rfl <| ones rfl <| ones_nil) (by omega) (by omega) (by simp) rfl rfl ?_
        intro v66 u66 w9 hM
        try dsimp only [Za, Zb, Zc, Zd, repl] at hM

        refine E.asg rfl rfl <| E.nil <| X.outN <| X.join1 _ (Sub.cons rfl <| Sub.nil _) rfl (by rw [t3_d (okT_t hc' hr' hd' hC5)]; exact hM)
       ·

        refine C.skip <| X.outN <| X.join1 _ (Sub.cons rfl <| Sub.nil _) rfl (by rw [t3_d0 (okT_f hc' hr' hd' hC5)]; exact hM)
      rintro vt w10 hM
      refine C.region <| ?_
      refine E.add rfl rfl (by omega) rfl ?_

      refine E.mv rfl rfl <| E.nil <| X.again2 (d + 1) _ (Sub.cons rfl <| Sub.cons rfl <| Sub.nil _) rfl ⟨hM, by omega⟩ (by omega)
     ·
      obtain rfl : d = l.length := by omega
      rw [t3_r] at hM
      refine C.exit <| X.exitT <| X.exitT <| X.outE <| X.outN <| X.next <| C.region <| ?_
      refine E.add rfl rfl (by omega) rfl ?_

      refine E.mv rfl rfl <| E.nil <| X.again2 (r + 1) _ (Sub.cons rfl <| Sub.cons rfl <| Sub.nil _) rfl ⟨hM, by omega⟩ (by omega)
    ·
     obtain rfl : r = l.length := by omega
     rw [t3_c] at hM
     refine C.exit <| X.exitT <| X.exitT <| X.outE <| X.outN <| X.next <| C.region <| ?_
     refine E.add rfl rfl (by omega) rfl ?_

     refine E.mv rfl rfl <| E.nil <| X.again2 (c + 1) _ (Sub.cons rfl <| Sub.cons rfl <| Sub.nil _) rfl ⟨hM, by omega⟩ (by omega)
   ·
    obtain rfl : c = l.length := by omega
    refine C.exit <| X.exitT <| X.exitT <| X.outE <| X.next <| C.seq <| C.region <| E.mv rfl rfl <| E.asg rfl rfl <| E.asg rfl rfl <| E.nil <| X.next <| C.ret <| ret2 rfl rfl rfl ?_
    exact .inr (.inr ⟨by omega, hal, _, rfl, hM⟩)
theorem root_b {n r A : Int} (h : isR n r) (h0 : 0 ≤ A) (hA : n < A * A) : 0 ≤ r ∧ r < A := by
 refine ⟨h.1, Decidable.byContradiction fun hc => ?_⟩
 have := sq_le h0 (show A ≤ r by omega)
 have := h.2.1; omega
def dimV (c r d : Mk) : Value → Prop := fun v =>
 (¬ (mok c ∧ mok r ∧ mok d) ∧ v = .tuple #[i64 0, i64 3]) ∨
 ((mok c ∧ mok r ∧ mok d) ∧ ∃ ru rv : Int, isR (dt (r.x - c.x) (r.y - c.y) (r.x - c.x) (r.y - c.y)) ru ∧ isR (dt (d.x - c.x) (d.y - c.y) (d.x - c.x) (d.y - c.y)) rv ∧ v = .tuple #[i64 (dim ru rv c.s r.s d.s).1, i64 (dim ru rv c.s r.s d.s).2])
theorem dim_lo {ru rv c r d p q : Int} (hp : p = 3 * (ru + rv)) (hq : q = 2 * (c + r + d)) (h : p < 12 * q) : dim ru rv c r d = (0, 14) := by
 subst hp hq; unfold dim; rw [if_pos (.inl h)]
theorem dim_hi {ru rv c r d p q : Int} (hp : p = 3 * (ru + rv)) (hq : q = 2 * (c + r + d)) (h : 172 * q ≤ p) : dim ru rv c r d = (0, 14) := by
 subst hp hq; unfold dim; rw [if_pos (.inr h)]
theorem dim_in {ru rv c r d p q : Int} (hp : p = 3 * (ru + rv)) (hq : q = 2 * (c + r + d)) (h : ¬ (p < 12 * q ∨ 172 * q ≤ p)) : dim ru rv c r d = (17 + 4 * ((p - 8 * q) / (4 * q)), 0) := by
 subst hp hq; unfold dim; rw [if_neg h]
theorem div_lo {p q : Int} (hq : 0 < q) (h8 : 8 * q ≤ p) : ((p - 8 * q) / (4 * q) < 1) ↔ p < 12 * q := by
 rw [Int.ediv_lt_iff_lt_mul (by omega)]; omega
theorem div_hi {p q : Int} (hq : 0 < q) : (40 < (p - 8 * q) / (4 * q)) ↔ 172 * q ≤ p := by
 rw [show (40 < (p - 8 * q) / (4 * q)) ↔ 41 ≤ (p - 8 * q) / (4 * q) by omega, Int.le_ediv_iff_mul_le (by omega)]; omega
theorem root_fn (n : Int) (h0 : 0 ≤ n) (h1 : n < 4611686018427387904) : ∃ r : Int, isR n r ∧ ∀ w : World, Ret Try.prog 34 #[i64 n] w fun v w' => v = i64 r ∧ Ext w w' := by
 have hex : ∃ r : Int, isR n r := by
  have key : ∀ k : Nat, n < ((k : Int) + 1) * (k + 1) → ∃ r : Int, isR n r := by
   intro k
   induction k with
   | zero => intro h; exact ⟨0, by omega, by omega, by simpa using h⟩
   | succ k ih =>
    intro h
    by_cases e : n < ((k : Int) + 1) * (k + 1)
    · exact ih e
    · exact ⟨(k : Int) + 1, by omega, by omega, by simpa using h⟩
  refine key n.toNat ?_
  have : n * 1 ≤ (n.toNat : Int) * ((n.toNat : Int) + 1) := Int.mul_le_mul (by omega) (by omega) (by omega) (by omega)
  rw [Int.add_mul]; omega
 obtain ⟨r, hr⟩ := hex
 exact ⟨r, hr, fun w => (root_ret n w h0 h1).mono fun v w' ⟨q, hv, hq, hx⟩ => ⟨by rw [hv, isR_one hq hr], hx⟩⟩
set_option maxHeartbeats 1000000 in
theorem Dimension_ret (c r d : Mk) (w : World) :
  Ret Try.prog 11 #[mkv c, mkv r, mkv d] w fun v w' => dimV c r d v ∧ Ext w w' := by
 have hM := M.start w
 refine enter Try.func11 rfl (by kernel_rfl) Try.ntmps11 rfl ?_
 refine C.seq <| C.region <| ?_
 refine E.boxM hM rfl rfl rfl ?_
 intro b3 w0 hM
 try dsimp only [Za, Zb, Zc, Zd, repl] at hM
 refine E.boxM hM rfl rfl rfl ?_
 intro b4 w1 hM
 try dsimp only [Za, Zb, Zc, Zd, repl] at hM
 refine E.boxM hM rfl rfl rfl ?_
 intro b5 w2 hM
 try dsimp only [Za, Zb, Zc, Zd, repl] at hM
 refine E.asg rfl rfl <| E.asg rfl rfl <| E.nil <| X.next <| C.seq <| C.seq <| C.region <| ?_
 refine E.loadA rfl Try.underlying24 rfl (by kernel_rfl) (by exact hM.bat 0 rfl) rfl ?_
 refine E.loadA rfl Try.underlying24 rfl (by kernel_rfl) (by exact hM.bat 1 rfl) rfl ?_
 refine E.loadA rfl Try.underlying24 rfl (by kernel_rfl) (by exact hM.bat 2 rfl) rfl ?_
 refine E.mkFF (enc := mkc) (sz := 4) (e := 24) [c, r, d] hM rfl (fun _ => by kernel_rfl) rfl (by decide) (fun a ha => by simp [mkc]) rfl ?_
 intro v17 w17 hM
 try dsimp only [Za, Zb, Zc, Zd, repl] at hM
 refine E.call rfl rfl (check_ret v17 [c, r, d] _ (hM.slF 3 rfl)) ?_
 rintro _ w3 ⟨rfl, x3⟩
 have hM := hM.ext x3
 try dsimp only [Za, Zb, Zc, Zd, repl] at hM
 refine E.asg rfl rfl <| E.nil <| X.next <| C.seq <| C.region <| E.mv rfl rfl <| E.bin rfl rfl rfl rfl <| E.nil <| X.next <| ?_
 refine C.cond' rfl (fun hC0 => ?_) (fun hC0 => ?_)
 ·
  have hno : ¬ (mok c ∧ mok r ∧ mok d) := fun h => by rw [if_pos (by simpa using h)] at hC0; exact hC0 rfl
  refine C.seq <| C.region <| E.mv rfl rfl <| E.asg rfl rfl <| E.asg rfl rfl <| E.nil <| X.next <| C.ret <| X.retT <| ret2 rfl rfl rfl ?_
  exact ⟨.inl ⟨hno, by rw [if_neg (fun h => hno (by simpa using h))]⟩, hM.toExt⟩
 ·
  have hok : mok c ∧ mok r ∧ mok d := Decidable.byContradiction fun h => by rw [if_neg (fun k => h (by simpa using k))] at hC0; exact hC0 (by decide)
  obtain ⟨hc, hr, hd⟩ := hok
  have hM := hM.pick [0, 1, 2] (by decide)
  have hc' := mok_i hc
  have hr' := mok_i hr
  have hd' := mok_i hd
  have q1 := dt_b (a := r.x - c.x) (b := r.y - c.y) (c := r.x - c.x) (d := r.y - c.y) (by omega) (by omega) (by omega) (by omega)
  have q2 := dt_b (a := d.x - c.x) (b := d.y - c.y) (c := d.x - c.x) (d := d.y - c.y) (by omega) (by omega) (by omega) (by omega)
  have s1 := dt_sq (a := r.x - c.x) (b := r.y - c.y)
  have s2 := dt_sq (a := d.x - c.x) (b := d.y - c.y)
  obtain ⟨ru, hru, cu⟩ := root_fn (dt (r.x - c.x) (r.y - c.y) (r.x - c.x) (r.y - c.y)) (by omega) (by omega)
  obtain ⟨rv, hrv, cv⟩ := root_fn (dt (d.x - c.x) (d.y - c.y) (d.x - c.x) (d.y - c.y)) (by omega) (by omega)
  have hub := root_b (A := 100000) hru (by omega) (by omega)
  have hvb := root_b (A := 100000) hrv (by omega) (by omega)
  refine C.skip <| X.next <| ?_

  refine C.cut2 [(3, _), (4, _), (5, _)] rfl (fun (b9 : Nat) (b10 : Nat) => [(9, pv b9), (10, pv b10)]) (fun (b9 : Nat) (b10 : Nat) w' => M w (Nn) w' [Rg.blk b3 24 (Fi.mkc c), Rg.blk b4 24 (Fi.mkc r), Rg.blk b5 24 (Fi.mkc d), Rg.blk b9 64 [i64 (r.x - c.x), i64 (r.y - c.y)], Rg.blk b10 64 [i64 (d.x - c.x), i64 (d.y - c.y)]]) ?_ ?_
  ·
   refine C.heldE (by kernel_rfl) fun wh4 hwh4 _ => ?_
   have hS := hwh4
   have hM0 := hM
   have hM := M.ofExt hwh4
   refine H.takeV 0 rfl rfl (by kernel_rfl) (by kernel_rfl) (by kernel_rfl) hS (Y.loadA rfl Try.underlying24 rfl (by kernel_rfl) (by exact (hM0.ext hS).bat 0 rfl)) (fun w' hS => by have hM := hM0.ext hS; exact Y.loadA rfl Try.underlying24 rfl (by kernel_rfl) (by exact hM.bat 0 rfl)) rfl ?_
   refine H.takeV 1 rfl rfl (by kernel_rfl) (by kernel_rfl) (by kernel_rfl) hS (Y.loadA rfl Try.underlying24 rfl (by kernel_rfl) (by exact (hM0.ext hS).bat 1 rfl)) (fun w' hS => by have hM := hM0.ext hS; exact Y.loadA rfl Try.underlying24 rfl (by kernel_rfl) (by exact hM.bat 1 rfl)) rfl ?_
   refine H.takeV 3 rfl rfl (by kernel_rfl) (by kernel_rfl) (by kernel_rfl) hS (Y.loadA rfl Try.underlying24 rfl (by kernel_rfl) (by exact (hM0.ext hS).bat 0 rfl)) (fun w' hS => by have hM := hM0.ext hS; exact Y.loadA rfl Try.underlying24 rfl (by kernel_rfl) (by exact hM.bat 0 rfl)) rfl ?_
   refine H.takeV 4 rfl rfl (by kernel_rfl) (by kernel_rfl) (by kernel_rfl) hS (Y.loadA rfl Try.underlying24 rfl (by kernel_rfl) (by exact (hM0.ext hS).bat 2 rfl)) (fun w' hS => by have hM := hM0.ext hS; exact Y.loadA rfl Try.underlying24 rfl (by kernel_rfl) (by exact hM.bat 2 rfl)) rfl ?_
   refine H.three 2 6 7 rfl rfl rfl (by kernel_rfl) ?_ ?_ ?_
   ·
    refine E.call rfl rfl (vector_ret c r _ hc hr) ?_
    rintro _ w4 ⟨rfl, x4⟩
    have hM := hM.ext x4
    try dsimp only [Za, Zb, Zc, Zd, repl] at hM
    have hS := hM.toExt
    refine H.back hS ?_
    refine H.three 5 6 7 rfl rfl rfl (by kernel_rfl) ?_ ?_ ?_
    ·
     refine E.call rfl rfl (vector_ret c d _ hc hd) ?_
     rintro _ w5 ⟨rfl, x5⟩
     have hM := hM.ext x5
     try dsimp only [Za, Zb, Zc, Zd, repl] at hM
     have hS := hM.toExt
     refine H.back hS ?_
     refine H.two 6 7 rfl rfl (by kernel_rfl) ?_ ?_
     ·
      refine E.allocM (z := .agg #[.int .i64 0, .int .i64 0]) (cs := [.int .i64 0, .int .i64 0]) hM (by kernel_rfl) rfl rfl ?_
      intro b9 w7 hM
      try dsimp only [Za, Zb, Zc, Zd, repl] at hM
      have hS := hM.toExt
      refine H.back hS ?_
      refine H.only 7 rfl (by kernel_rfl) ?_
      refine E.allocM (z := .agg #[.int .i64 0, .int .i64 0]) (cs := [.int .i64 0, .int .i64 0]) hM (by kernel_rfl) rfl rfl ?_
      intro b10 w8 hM
      try dsimp only [Za, Zb, Zc, Zd, repl] at hM
      have hS := hM.toExt
      refine H.back hS ?_
      refine H.only 8 rfl (by kernel_rfl) ?_
      first
       | refine E.storeAM 0 hM rfl rfl rfl (by kernel_rfl) rfl ?_ ?_
       | refine E.storeAM 1 hM rfl rfl rfl (by kernel_rfl) rfl ?_ ?_
       | refine E.storeAM 2 hM rfl rfl rfl (by kernel_rfl) rfl ?_ ?_
       | refine E.storeAM 3 hM rfl rfl rfl (by kernel_rfl) rfl ?_ ?_
       | refine E.storeAM 4 hM rfl rfl rfl (by kernel_rfl) rfl ?_ ?_
       | refine E.storeAM 5 hM rfl rfl rfl (by kernel_rfl) rfl ?_ ?_
      · exact ones (by rfl) <| ones (by rfl) <| ones_nil
      intro w9 hM
      try dsimp only [Za, Zb, Zc, Zd, repl] at hM
      have hS := hM.toExt
      refine H.back hS ?_
      refine H.only 9 rfl (by kernel_rfl) ?_
      first
       | refine E.storeAM 0 hM rfl rfl rfl (by kernel_rfl) rfl ?_ ?_
       | refine E.storeAM 1 hM rfl rfl rfl (by kernel_rfl) rfl ?_ ?_
       | refine E.storeAM 2 hM rfl rfl rfl (by kernel_rfl) rfl ?_ ?_
       | refine E.storeAM 3 hM rfl rfl rfl (by kernel_rfl) rfl ?_ ?_
       | refine E.storeAM 4 hM rfl rfl rfl (by kernel_rfl) rfl ?_ ?_
       | refine E.storeAM 5 hM rfl rfl rfl (by kernel_rfl) rfl ?_ ?_
      · exact ones (by rfl) <| ones (by rfl) <| ones_nil
      intro w10 hM
      try dsimp only [Za, Zb, Zc, Zd, repl] at hM
      have hS := hM.toExt
      refine H.back hS ?_
      refine H.done (by kernel_rfl) ?_
      have hM := hM0.call hM

      refine X.join2 _ _ (Sub.cons rfl <| Sub.cons rfl <| Sub.nil _) rfl (by (try exact hM); (try exact hM.pick [0, 1, 2, 4, 3] (by decide)))
     ·
      refine E.allocM (z := .agg #[.int .i64 0, .int .i64 0]) (cs := [.int .i64 0, .int .i64 0]) hM (by kernel_rfl) rfl rfl ?_
      intro b10 w11 hM
      try dsimp only [Za, Zb, Zc, Zd, repl] at hM
      have hS := hM.toExt
      refine H.back hS ?_
      refine H.only 6 rfl (by kernel_rfl) ?_
      refine E.allocM (z := .agg #[.int .i64 0, .int .i64 0]) (cs := [.int .i64 0, .int .i64 0]) hM (by kernel_rfl) rfl rfl ?_
      intro b9 w12 hM
      try dsimp only [Za, Zb, Zc, Zd, repl] at hM
      have hS := hM.toExt
      refine H.back hS ?_
      refine H.only 8 rfl (by kernel_rfl) ?_
      first
       | refine E.storeAM 0 hM rfl rfl rfl (by kernel_rfl) rfl ?_ ?_
       | refine E.storeAM 1 hM rfl rfl rfl (by kernel_rfl) rfl ?_ ?_
       | refine E.storeAM 2 hM rfl rfl rfl (by kernel_rfl) rfl ?_ ?_
       | refine E.storeAM 3 hM rfl rfl rfl (by kernel_rfl) rfl ?_ ?_
       | refine E.storeAM 4 hM rfl rfl rfl (by kernel_rfl) rfl ?_ ?_
       | refine E.storeAM 5 hM rfl rfl rfl (by kernel_rfl) rfl ?_ ?_
      · exact ones (by rfl) <| ones (by rfl) <| ones_nil
      intro w13 hM
      try dsimp only [Za, Zb, Zc, Zd, repl] at hM
      have hS := hM.toExt
      refine H.back hS ?_
      refine H.only 9 rfl (by kernel_rfl) ?_
      first
       | refine E.storeAM 0 hM rfl rfl rfl (by kernel_rfl) rfl ?_ ?_
       | refine E.storeAM 1 hM rfl rfl rfl (by kernel_rfl) rfl ?_ ?_
       | refine E.storeAM 2 hM rfl rfl rfl (by kernel_rfl) rfl ?_ ?_
       | refine E.storeAM 3 hM rfl rfl rfl (by kernel_rfl) rfl ?_ ?_
       | refine E.storeAM 4 hM rfl rfl rfl (by kernel_rfl) rfl ?_ ?_
       | refine E.storeAM 5 hM rfl rfl rfl (by kernel_rfl) rfl ?_ ?_
      · exact ones (by rfl) <| ones (by rfl) <| ones_nil
      intro w14 hM
      try dsimp only [Za, Zb, Zc, Zd, repl] at hM
      have hS := hM.toExt
      refine H.back hS ?_
      refine H.done (by kernel_rfl) ?_
      have hM := hM0.call hM

      refine X.join2 _ _ (Sub.cons rfl <| Sub.cons rfl <| Sub.nil _) rfl (by (try exact hM); (try exact hM.pick [0, 1, 2, 4, 3] (by decide)))
    ·
     refine E.allocM (z := .agg #[.int .i64 0, .int .i64 0]) (cs := [.int .i64 0, .int .i64 0]) hM (by kernel_rfl) rfl rfl ?_
     intro b9 w15 hM
     try dsimp only [Za, Zb, Zc, Zd, repl] at hM
     have hS := hM.toExt
     refine H.back hS ?_
     refine H.two 5 7 rfl rfl (by kernel_rfl) ?_ ?_
     ·
      refine E.call rfl rfl (vector_ret c d _ hc hd) ?_
      rintro _ w5 ⟨rfl, x5⟩
      have hM := hM.ext x5
      try dsimp only [Za, Zb, Zc, Zd, repl] at hM
      have hS := hM.toExt
      refine H.back hS ?_
      refine H.only 7 rfl (by kernel_rfl) ?_
      refine E.allocM (z := .agg #[.int .i64 0, .int .i64 0]) (cs := [.int .i64 0, .int .i64 0]) hM (by kernel_rfl) rfl rfl ?_
      intro b10 w17 hM
      try dsimp only [Za, Zb, Zc, Zd, repl] at hM
      have hS := hM.toExt
      refine H.back hS ?_
      refine H.only 8 rfl (by kernel_rfl) ?_
      first
       | refine E.storeAM 0 hM rfl rfl rfl (by kernel_rfl) rfl ?_ ?_
       | refine E.storeAM 1 hM rfl rfl rfl (by kernel_rfl) rfl ?_ ?_
       | refine E.storeAM 2 hM rfl rfl rfl (by kernel_rfl) rfl ?_ ?_
       | refine E.storeAM 3 hM rfl rfl rfl (by kernel_rfl) rfl ?_ ?_
       | refine E.storeAM 4 hM rfl rfl rfl (by kernel_rfl) rfl ?_ ?_
       | refine E.storeAM 5 hM rfl rfl rfl (by kernel_rfl) rfl ?_ ?_
      · exact ones (by rfl) <| ones (by rfl) <| ones_nil
      intro w18 hM
      try dsimp only [Za, Zb, Zc, Zd, repl] at hM
      have hS := hM.toExt
      refine H.back hS ?_
      refine H.only 9 rfl (by kernel_rfl) ?_
      first
       | refine E.storeAM 0 hM rfl rfl rfl (by kernel_rfl) rfl ?_ ?_
       | refine E.storeAM 1 hM rfl rfl rfl (by kernel_rfl) rfl ?_ ?_
       | refine E.storeAM 2 hM rfl rfl rfl (by kernel_rfl) rfl ?_ ?_
       | refine E.storeAM 3 hM rfl rfl rfl (by kernel_rfl) rfl ?_ ?_
       | refine E.storeAM 4 hM rfl rfl rfl (by kernel_rfl) rfl ?_ ?_
       | refine E.storeAM 5 hM rfl rfl rfl (by kernel_rfl) rfl ?_ ?_
      · exact ones (by rfl) <| ones (by rfl) <| ones_nil
      intro w19 hM
      try dsimp only [Za, Zb, Zc, Zd, repl] at hM
      have hS := hM.toExt
      refine H.back hS ?_
      refine H.done (by kernel_rfl) ?_
      have hM := hM0.call hM

      refine X.join2 _ _ (Sub.cons rfl <| Sub.cons rfl <| Sub.nil _) rfl (by (try exact hM); (try exact hM.pick [0, 1, 2, 4, 3] (by decide)))
     ·
      refine E.allocM (z := .agg #[.int .i64 0, .int .i64 0]) (cs := [.int .i64 0, .int .i64 0]) hM (by kernel_rfl) rfl rfl ?_
      intro b10 w20 hM
      try dsimp only [Za, Zb, Zc, Zd, repl] at hM
      have hS := hM.toExt
      refine H.back hS ?_
      refine H.only 5 rfl (by kernel_rfl) ?_
      refine E.call rfl rfl (vector_ret c d _ hc hd) ?_
      rintro _ w5 ⟨rfl, x5⟩
      have hM := hM.ext x5
      try dsimp only [Za, Zb, Zc, Zd, repl] at hM
      have hS := hM.toExt
      refine H.back hS ?_
      refine H.only 8 rfl (by kernel_rfl) ?_
      first
       | refine E.storeAM 0 hM rfl rfl rfl (by kernel_rfl) rfl ?_ ?_
       | refine E.storeAM 1 hM rfl rfl rfl (by kernel_rfl) rfl ?_ ?_
       | refine E.storeAM 2 hM rfl rfl rfl (by kernel_rfl) rfl ?_ ?_
       | refine E.storeAM 3 hM rfl rfl rfl (by kernel_rfl) rfl ?_ ?_
       | refine E.storeAM 4 hM rfl rfl rfl (by kernel_rfl) rfl ?_ ?_
       | refine E.storeAM 5 hM rfl rfl rfl (by kernel_rfl) rfl ?_ ?_
      · exact ones (by rfl) <| ones (by rfl) <| ones_nil
      intro w22 hM
      try dsimp only [Za, Zb, Zc, Zd, repl] at hM
      have hS := hM.toExt
      refine H.back hS ?_
      refine H.only 9 rfl (by kernel_rfl) ?_
      first
       | refine E.storeAM 0 hM rfl rfl rfl (by kernel_rfl) rfl ?_ ?_
       | refine E.storeAM 1 hM rfl rfl rfl (by kernel_rfl) rfl ?_ ?_
       | refine E.storeAM 2 hM rfl rfl rfl (by kernel_rfl) rfl ?_ ?_
       | refine E.storeAM 3 hM rfl rfl rfl (by kernel_rfl) rfl ?_ ?_
       | refine E.storeAM 4 hM rfl rfl rfl (by kernel_rfl) rfl ?_ ?_
       | refine E.storeAM 5 hM rfl rfl rfl (by kernel_rfl) rfl ?_ ?_
      · exact ones (by rfl) <| ones (by rfl) <| ones_nil
      intro w23 hM
      try dsimp only [Za, Zb, Zc, Zd, repl] at hM
      have hS := hM.toExt
      refine H.back hS ?_
      refine H.done (by kernel_rfl) ?_
      have hM := hM0.call hM

      refine X.join2 _ _ (Sub.cons rfl <| Sub.cons rfl <| Sub.nil _) rfl (by (try exact hM); (try exact hM.pick [0, 1, 2, 4, 3] (by decide)))
    ·
     refine E.allocM (z := .agg #[.int .i64 0, .int .i64 0]) (cs := [.int .i64 0, .int .i64 0]) hM (by kernel_rfl) rfl rfl ?_
     intro b10 w24 hM
     try dsimp only [Za, Zb, Zc, Zd, repl] at hM
     have hS := hM.toExt
     refine H.back hS ?_
     refine H.two 5 6 rfl rfl (by kernel_rfl) ?_ ?_
     ·
      refine E.call rfl rfl (vector_ret c d _ hc hd) ?_
      rintro _ w5 ⟨rfl, x5⟩
      have hM := hM.ext x5
      try dsimp only [Za, Zb, Zc, Zd, repl] at hM
      have hS := hM.toExt
      refine H.back hS ?_
      refine H.only 6 rfl (by kernel_rfl) ?_
      refine E.allocM (z := .agg #[.int .i64 0, .int .i64 0]) (cs := [.int .i64 0, .int .i64 0]) hM (by kernel_rfl) rfl rfl ?_
      intro b9 w26 hM
      try dsimp only [Za, Zb, Zc, Zd, repl] at hM
      have hS := hM.toExt
      refine H.back hS ?_
      refine H.only 8 rfl (by kernel_rfl) ?_
      first
       | refine E.storeAM 0 hM rfl rfl rfl (by kernel_rfl) rfl ?_ ?_
       | refine E.storeAM 1 hM rfl rfl rfl (by kernel_rfl) rfl ?_ ?_
       | refine E.storeAM 2 hM rfl rfl rfl (by kernel_rfl) rfl ?_ ?_
       | refine E.storeAM 3 hM rfl rfl rfl (by kernel_rfl) rfl ?_ ?_
       | refine E.storeAM 4 hM rfl rfl rfl (by kernel_rfl) rfl ?_ ?_
       | refine E.storeAM 5 hM rfl rfl rfl (by kernel_rfl) rfl ?_ ?_
      · exact ones (by rfl) <| ones (by rfl) <| ones_nil
      intro w27 hM
      try dsimp only [Za, Zb, Zc, Zd, repl] at hM
      have hS := hM.toExt
      refine H.back hS ?_
      refine H.only 9 rfl (by kernel_rfl) ?_
      first
       | refine E.storeAM 0 hM rfl rfl rfl (by kernel_rfl) rfl ?_ ?_
       | refine E.storeAM 1 hM rfl rfl rfl (by kernel_rfl) rfl ?_ ?_
       | refine E.storeAM 2 hM rfl rfl rfl (by kernel_rfl) rfl ?_ ?_
       | refine E.storeAM 3 hM rfl rfl rfl (by kernel_rfl) rfl ?_ ?_
       | refine E.storeAM 4 hM rfl rfl rfl (by kernel_rfl) rfl ?_ ?_
       | refine E.storeAM 5 hM rfl rfl rfl (by kernel_rfl) rfl ?_ ?_
      · exact ones (by rfl) <| ones (by rfl) <| ones_nil
      intro w28 hM
      try dsimp only [Za, Zb, Zc, Zd, repl] at hM
      have hS := hM.toExt
      refine H.back hS ?_
      refine H.done (by kernel_rfl) ?_
      have hM := hM0.call hM

      refine X.join2 _ _ (Sub.cons rfl <| Sub.cons rfl <| Sub.nil _) rfl (by (try exact hM); (try exact hM.pick [0, 1, 2, 4, 3] (by decide)))
     ·
      refine E.allocM (z := .agg #[.int .i64 0, .int .i64 0]) (cs := [.int .i64 0, .int .i64 0]) hM (by kernel_rfl) rfl rfl ?_
      intro b9 w29 hM
      try dsimp only [Za, Zb, Zc, Zd, repl] at hM
      have hS := hM.toExt
      refine H.back hS ?_
      refine H.only 5 rfl (by kernel_rfl) ?_
      refine E.call rfl rfl (vector_ret c d _ hc hd) ?_
      rintro _ w5 ⟨rfl, x5⟩
      have hM := hM.ext x5
      try dsimp only [Za, Zb, Zc, Zd, repl] at hM
      have hS := hM.toExt
      refine H.back hS ?_
      refine H.only 8 rfl (by kernel_rfl) ?_
      first
       | refine E.storeAM 0 hM rfl rfl rfl (by kernel_rfl) rfl ?_ ?_
       | refine E.storeAM 1 hM rfl rfl rfl (by kernel_rfl) rfl ?_ ?_
       | refine E.storeAM 2 hM rfl rfl rfl (by kernel_rfl) rfl ?_ ?_
       | refine E.storeAM 3 hM rfl rfl rfl (by kernel_rfl) rfl ?_ ?_
       | refine E.storeAM 4 hM rfl rfl rfl (by kernel_rfl) rfl ?_ ?_
       | refine E.storeAM 5 hM rfl rfl rfl (by kernel_rfl) rfl ?_ ?_
      · exact ones (by rfl) <| ones (by rfl) <| ones_nil
      intro w31 hM
      try dsimp only [Za, Zb, Zc, Zd, repl] at hM
      have hS := hM.toExt
      refine H.back hS ?_
      refine H.only 9 rfl (by kernel_rfl) ?_
      first
       | refine E.storeAM 0 hM rfl rfl rfl (by kernel_rfl) rfl ?_ ?_
       | refine E.storeAM 1 hM rfl rfl rfl (by kernel_rfl) rfl ?_ ?_
       | refine E.storeAM 2 hM rfl rfl rfl (by kernel_rfl) rfl ?_ ?_
       | refine E.storeAM 3 hM rfl rfl rfl (by kernel_rfl) rfl ?_ ?_
       | refine E.storeAM 4 hM rfl rfl rfl (by kernel_rfl) rfl ?_ ?_
       | refine E.storeAM 5 hM rfl rfl rfl (by kernel_rfl) rfl ?_ ?_
      · exact ones (by rfl) <| ones (by rfl) <| ones_nil
      intro w32 hM
      try dsimp only [Za, Zb, Zc, Zd, repl] at hM
      have hS := hM.toExt
      refine H.back hS ?_
      refine H.done (by kernel_rfl) ?_
      have hM := hM0.call hM

      refine X.join2 _ _ (Sub.cons rfl <| Sub.cons rfl <| Sub.nil _) rfl (by (try exact hM); (try exact hM.pick [0, 1, 2, 4, 3] (by decide)))
   ·
    refine E.allocM (z := .agg #[.int .i64 0, .int .i64 0]) (cs := [.int .i64 0, .int .i64 0]) hM (by kernel_rfl) rfl rfl ?_
    intro b9 w33 hM
    try dsimp only [Za, Zb, Zc, Zd, repl] at hM
    have hS := hM.toExt
    refine H.back hS ?_
    refine H.two 2 7 rfl rfl (by kernel_rfl) ?_ ?_
    ·
     refine E.call rfl rfl (vector_ret c r _ hc hr) ?_
     rintro _ w4 ⟨rfl, x4⟩
     have hM := hM.ext x4
     try dsimp only [Za, Zb, Zc, Zd, repl] at hM
     have hS := hM.toExt
     refine H.back hS ?_
     refine H.two 5 7 rfl rfl (by kernel_rfl) ?_ ?_
     ·
      refine E.call rfl rfl (vector_ret c d _ hc hd) ?_
      rintro _ w5 ⟨rfl, x5⟩
      have hM := hM.ext x5
      try dsimp only [Za, Zb, Zc, Zd, repl] at hM
      have hS := hM.toExt
      refine H.back hS ?_
      refine H.only 7 rfl (by kernel_rfl) ?_
      refine E.allocM (z := .agg #[.int .i64 0, .int .i64 0]) (cs := [.int .i64 0, .int .i64 0]) hM (by kernel_rfl) rfl rfl ?_
      intro b10 w36 hM
      try dsimp only [Za, Zb, Zc, Zd, repl] at hM
      have hS := hM.toExt
      refine H.back hS ?_
      refine H.only 8 rfl (by kernel_rfl) ?_
      first
       | refine E.storeAM 0 hM rfl rfl rfl (by kernel_rfl) rfl ?_ ?_
       | refine E.storeAM 1 hM rfl rfl rfl (by kernel_rfl) rfl ?_ ?_
       | refine E.storeAM 2 hM rfl rfl rfl (by kernel_rfl) rfl ?_ ?_
       | refine E.storeAM 3 hM rfl rfl rfl (by kernel_rfl) rfl ?_ ?_
       | refine E.storeAM 4 hM rfl rfl rfl (by kernel_rfl) rfl ?_ ?_
       | refine E.storeAM 5 hM rfl rfl rfl (by kernel_rfl) rfl ?_ ?_
      · exact ones (by rfl) <| ones (by rfl) <| ones_nil
      intro w37 hM
      try dsimp only [Za, Zb, Zc, Zd, repl] at hM
      have hS := hM.toExt
      refine H.back hS ?_
      refine H.only 9 rfl (by kernel_rfl) ?_
      first
       | refine E.storeAM 0 hM rfl rfl rfl (by kernel_rfl) rfl ?_ ?_
       | refine E.storeAM 1 hM rfl rfl rfl (by kernel_rfl) rfl ?_ ?_
       | refine E.storeAM 2 hM rfl rfl rfl (by kernel_rfl) rfl ?_ ?_
       | refine E.storeAM 3 hM rfl rfl rfl (by kernel_rfl) rfl ?_ ?_
       | refine E.storeAM 4 hM rfl rfl rfl (by kernel_rfl) rfl ?_ ?_
       | refine E.storeAM 5 hM rfl rfl rfl (by kernel_rfl) rfl ?_ ?_
      · exact ones (by rfl) <| ones (by rfl) <| ones_nil
      intro w38 hM
      try dsimp only [Za, Zb, Zc, Zd, repl] at hM
      have hS := hM.toExt
      refine H.back hS ?_
      refine H.done (by kernel_rfl) ?_
      have hM := hM0.call hM

      refine X.join2 _ _ (Sub.cons rfl <| Sub.cons rfl <| Sub.nil _) rfl (by (try exact hM); (try exact hM.pick [0, 1, 2, 4, 3] (by decide)))
     ·
      refine E.allocM (z := .agg #[.int .i64 0, .int .i64 0]) (cs := [.int .i64 0, .int .i64 0]) hM (by kernel_rfl) rfl rfl ?_
      intro b10 w39 hM
      try dsimp only [Za, Zb, Zc, Zd, repl] at hM
      have hS := hM.toExt
      refine H.back hS ?_
      refine H.only 5 rfl (by kernel_rfl) ?_
      refine E.call rfl rfl (vector_ret c d _ hc hd) ?_
      rintro _ w5 ⟨rfl, x5⟩
      have hM := hM.ext x5
      try dsimp only [Za, Zb, Zc, Zd, repl] at hM
      have hS := hM.toExt
      refine H.back hS ?_
      refine H.only 8 rfl (by kernel_rfl) ?_
      first
       | refine E.storeAM 0 hM rfl rfl rfl (by kernel_rfl) rfl ?_ ?_
       | refine E.storeAM 1 hM rfl rfl rfl (by kernel_rfl) rfl ?_ ?_
       | refine E.storeAM 2 hM rfl rfl rfl (by kernel_rfl) rfl ?_ ?_
       | refine E.storeAM 3 hM rfl rfl rfl (by kernel_rfl) rfl ?_ ?_
       | refine E.storeAM 4 hM rfl rfl rfl (by kernel_rfl) rfl ?_ ?_
       | refine E.storeAM 5 hM rfl rfl rfl (by kernel_rfl) rfl ?_ ?_
      · exact ones (by rfl) <| ones (by rfl) <| ones_nil
      intro w41 hM
      try dsimp only [Za, Zb, Zc, Zd, repl] at hM
      have hS := hM.toExt
      refine H.back hS ?_
      refine H.only 9 rfl (by kernel_rfl) ?_
      first
       | refine E.storeAM 0 hM rfl rfl rfl (by kernel_rfl) rfl ?_ ?_
       | refine E.storeAM 1 hM rfl rfl rfl (by kernel_rfl) rfl ?_ ?_
       | refine E.storeAM 2 hM rfl rfl rfl (by kernel_rfl) rfl ?_ ?_
       | refine E.storeAM 3 hM rfl rfl rfl (by kernel_rfl) rfl ?_ ?_
       | refine E.storeAM 4 hM rfl rfl rfl (by kernel_rfl) rfl ?_ ?_
       | refine E.storeAM 5 hM rfl rfl rfl (by kernel_rfl) rfl ?_ ?_
      · exact ones (by rfl) <| ones (by rfl) <| ones_nil
      intro w42 hM
      try dsimp only [Za, Zb, Zc, Zd, repl] at hM
      have hS := hM.toExt
      refine H.back hS ?_
      refine H.done (by kernel_rfl) ?_
      have hM := hM0.call hM

      refine X.join2 _ _ (Sub.cons rfl <| Sub.cons rfl <| Sub.nil _) rfl (by (try exact hM); (try exact hM.pick [0, 1, 2, 4, 3] (by decide)))
    ·
     refine E.allocM (z := .agg #[.int .i64 0, .int .i64 0]) (cs := [.int .i64 0, .int .i64 0]) hM (by kernel_rfl) rfl rfl ?_
     intro b10 w43 hM
     try dsimp only [Za, Zb, Zc, Zd, repl] at hM
     have hS := hM.toExt
     refine H.back hS ?_
     refine H.only 2 rfl (by kernel_rfl) ?_
     refine E.call rfl rfl (vector_ret c r _ hc hr) ?_
     rintro _ w4 ⟨rfl, x4⟩
     have hM := hM.ext x4
     try dsimp only [Za, Zb, Zc, Zd, repl] at hM
     have hS := hM.toExt
     refine H.back hS ?_
     refine H.only 5 rfl (by kernel_rfl) ?_
     refine E.call rfl rfl (vector_ret c d _ hc hd) ?_
     rintro _ w5 ⟨rfl, x5⟩
     have hM := hM.ext x5
     try dsimp only [Za, Zb, Zc, Zd, repl] at hM
     have hS := hM.toExt
     refine H.back hS ?_
     refine H.only 8 rfl (by kernel_rfl) ?_
     first
      | refine E.storeAM 0 hM rfl rfl rfl (by kernel_rfl) rfl ?_ ?_
      | refine E.storeAM 1 hM rfl rfl rfl (by kernel_rfl) rfl ?_ ?_
      | refine E.storeAM 2 hM rfl rfl rfl (by kernel_rfl) rfl ?_ ?_
      | refine E.storeAM 3 hM rfl rfl rfl (by kernel_rfl) rfl ?_ ?_
      | refine E.storeAM 4 hM rfl rfl rfl (by kernel_rfl) rfl ?_ ?_
      | refine E.storeAM 5 hM rfl rfl rfl (by kernel_rfl) rfl ?_ ?_
     · exact ones (by rfl) <| ones (by rfl) <| ones_nil
     intro w46 hM
     try dsimp only [Za, Zb, Zc, Zd, repl] at hM
     have hS := hM.toExt
     refine H.back hS ?_
     refine H.only 9 rfl (by kernel_rfl) ?_
     first
      | refine E.storeAM 0 hM rfl rfl rfl (by kernel_rfl) rfl ?_ ?_
      | refine E.storeAM 1 hM rfl rfl rfl (by kernel_rfl) rfl ?_ ?_
      | refine E.storeAM 2 hM rfl rfl rfl (by kernel_rfl) rfl ?_ ?_
      | refine E.storeAM 3 hM rfl rfl rfl (by kernel_rfl) rfl ?_ ?_
      | refine E.storeAM 4 hM rfl rfl rfl (by kernel_rfl) rfl ?_ ?_
      | refine E.storeAM 5 hM rfl rfl rfl (by kernel_rfl) rfl ?_ ?_
     · exact ones (by rfl) <| ones (by rfl) <| ones_nil
     intro w47 hM
     try dsimp only [Za, Zb, Zc, Zd, repl] at hM
     have hS := hM.toExt
     refine H.back hS ?_
     refine H.done (by kernel_rfl) ?_
     have hM := hM0.call hM

     refine X.join2 _ _ (Sub.cons rfl <| Sub.cons rfl <| Sub.nil _) rfl (by (try exact hM); (try exact hM.pick [0, 1, 2, 4, 3] (by decide)))
   ·
    refine E.allocM (z := .agg #[.int .i64 0, .int .i64 0]) (cs := [.int .i64 0, .int .i64 0]) hM (by kernel_rfl) rfl rfl ?_
    intro b10 w48 hM
    try dsimp only [Za, Zb, Zc, Zd, repl] at hM
    have hS := hM.toExt
    refine H.back hS ?_
    refine H.two 2 6 rfl rfl (by kernel_rfl) ?_ ?_
    ·
     refine E.call rfl rfl (vector_ret c r _ hc hr) ?_
     rintro _ w4 ⟨rfl, x4⟩
     have hM := hM.ext x4
     try dsimp only [Za, Zb, Zc, Zd, repl] at hM
     have hS := hM.toExt
     refine H.back hS ?_
     refine H.two 5 6 rfl rfl (by kernel_rfl) ?_ ?_
     ·
      refine E.call rfl rfl (vector_ret c d _ hc hd) ?_
      rintro _ w5 ⟨rfl, x5⟩
      have hM := hM.ext x5
      try dsimp only [Za, Zb, Zc, Zd, repl] at hM
      have hS := hM.toExt
      refine H.back hS ?_
      refine H.only 6 rfl (by kernel_rfl) ?_
      refine E.allocM (z := .agg #[.int .i64 0, .int .i64 0]) (cs := [.int .i64 0, .int .i64 0]) hM (by kernel_rfl) rfl rfl ?_
      intro b9 w51 hM
      try dsimp only [Za, Zb, Zc, Zd, repl] at hM
      have hS := hM.toExt
      refine H.back hS ?_
      refine H.only 8 rfl (by kernel_rfl) ?_
      first
       | refine E.storeAM 0 hM rfl rfl rfl (by kernel_rfl) rfl ?_ ?_
       | refine E.storeAM 1 hM rfl rfl rfl (by kernel_rfl) rfl ?_ ?_
       | refine E.storeAM 2 hM rfl rfl rfl (by kernel_rfl) rfl ?_ ?_
       | refine E.storeAM 3 hM rfl rfl rfl (by kernel_rfl) rfl ?_ ?_
       | refine E.storeAM 4 hM rfl rfl rfl (by kernel_rfl) rfl ?_ ?_
       | refine E.storeAM 5 hM rfl rfl rfl (by kernel_rfl) rfl ?_ ?_
      · exact ones (by rfl) <| ones (by rfl) <| ones_nil
      intro w52 hM
      try dsimp only [Za, Zb, Zc, Zd, repl] at hM
      have hS := hM.toExt
      refine H.back hS ?_
      refine H.only 9 rfl (by kernel_rfl) ?_
      first
       | refine E.storeAM 0 hM rfl rfl rfl (by kernel_rfl) rfl ?_ ?_
       | refine E.storeAM 1 hM rfl rfl rfl (by kernel_rfl) rfl ?_ ?_
       | refine E.storeAM 2 hM rfl rfl rfl (by kernel_rfl) rfl ?_ ?_
       | refine E.storeAM 3 hM rfl rfl rfl (by kernel_rfl) rfl ?_ ?_
       | refine E.storeAM 4 hM rfl rfl rfl (by kernel_rfl) rfl ?_ ?_
       | refine E.storeAM 5 hM rfl rfl rfl (by kernel_rfl) rfl ?_ ?_
      · exact ones (by rfl) <| ones (by rfl) <| ones_nil
      intro w53 hM
      try dsimp only [Za, Zb, Zc, Zd, repl] at hM
      have hS := hM.toExt
      refine H.back hS ?_
      refine H.done (by kernel_rfl) ?_
      have hM := hM0.call hM

      refine X.join2 _ _ (Sub.cons rfl <| Sub.cons rfl <| Sub.nil _) rfl (by (try exact hM); (try exact hM.pick [0, 1, 2, 4, 3] (by decide)))
     ·
      refine E.allocM (z := .agg #[.int .i64 0, .int .i64 0]) (cs := [.int .i64 0, .int .i64 0]) hM (by kernel_rfl) rfl rfl ?_
      intro b9 w54 hM
      try dsimp only [Za, Zb, Zc, Zd, repl] at hM
      have hS := hM.toExt
      refine H.back hS ?_
      refine H.only 5 rfl (by kernel_rfl) ?_
      refine E.call rfl rfl (vector_ret c d _ hc hd) ?_
      rintro _ w5 ⟨rfl, x5⟩
      have hM := hM.ext x5
      try dsimp only [Za, Zb, Zc, Zd, repl] at hM
      have hS := hM.toExt
      refine H.back hS ?_
      refine H.only 8 rfl (by kernel_rfl) ?_
      first
       | refine E.storeAM 0 hM rfl rfl rfl (by kernel_rfl) rfl ?_ ?_
       | refine E.storeAM 1 hM rfl rfl rfl (by kernel_rfl) rfl ?_ ?_
       | refine E.storeAM 2 hM rfl rfl rfl (by kernel_rfl) rfl ?_ ?_
       | refine E.storeAM 3 hM rfl rfl rfl (by kernel_rfl) rfl ?_ ?_
       | refine E.storeAM 4 hM rfl rfl rfl (by kernel_rfl) rfl ?_ ?_
       | refine E.storeAM 5 hM rfl rfl rfl (by kernel_rfl) rfl ?_ ?_
      · exact ones (by rfl) <| ones (by rfl) <| ones_nil
      intro w56 hM
      try dsimp only [Za, Zb, Zc, Zd, repl] at hM
      have hS := hM.toExt
      refine H.back hS ?_
      refine H.only 9 rfl (by kernel_rfl) ?_
      first
       | refine E.storeAM 0 hM rfl rfl rfl (by kernel_rfl) rfl ?_ ?_
       | refine E.storeAM 1 hM rfl rfl rfl (by kernel_rfl) rfl ?_ ?_
       | refine E.storeAM 2 hM rfl rfl rfl (by kernel_rfl) rfl ?_ ?_
       | refine E.storeAM 3 hM rfl rfl rfl (by kernel_rfl) rfl ?_ ?_
       | refine E.storeAM 4 hM rfl rfl rfl (by kernel_rfl) rfl ?_ ?_
       | refine E.storeAM 5 hM rfl rfl rfl (by kernel_rfl) rfl ?_ ?_
      · exact ones (by rfl) <| ones (by rfl) <| ones_nil
      intro w57 hM
      try dsimp only [Za, Zb, Zc, Zd, repl] at hM
      have hS := hM.toExt
      refine H.back hS ?_
      refine H.done (by kernel_rfl) ?_
      have hM := hM0.call hM

      refine X.join2 _ _ (Sub.cons rfl <| Sub.cons rfl <| Sub.nil _) rfl (by (try exact hM); (try exact hM.pick [0, 1, 2, 4, 3] (by decide)))
    ·
     refine E.allocM (z := .agg #[.int .i64 0, .int .i64 0]) (cs := [.int .i64 0, .int .i64 0]) hM (by kernel_rfl) rfl rfl ?_
     intro b9 w58 hM
     try dsimp only [Za, Zb, Zc, Zd, repl] at hM
     have hS := hM.toExt
     refine H.back hS ?_
     refine H.only 2 rfl (by kernel_rfl) ?_
     refine E.call rfl rfl (vector_ret c r _ hc hr) ?_
     rintro _ w4 ⟨rfl, x4⟩
     have hM := hM.ext x4
     try dsimp only [Za, Zb, Zc, Zd, repl] at hM
     have hS := hM.toExt
     refine H.back hS ?_
     refine H.only 5 rfl (by kernel_rfl) ?_
     refine E.call rfl rfl (vector_ret c d _ hc hd) ?_
     rintro _ w5 ⟨rfl, x5⟩
     have hM := hM.ext x5
     try dsimp only [Za, Zb, Zc, Zd, repl] at hM
     have hS := hM.toExt
     refine H.back hS ?_
     refine H.only 8 rfl (by kernel_rfl) ?_
     first
      | refine E.storeAM 0 hM rfl rfl rfl (by kernel_rfl) rfl ?_ ?_
      | refine E.storeAM 1 hM rfl rfl rfl (by kernel_rfl) rfl ?_ ?_
      | refine E.storeAM 2 hM rfl rfl rfl (by kernel_rfl) rfl ?_ ?_
      | refine E.storeAM 3 hM rfl rfl rfl (by kernel_rfl) rfl ?_ ?_
      | refine E.storeAM 4 hM rfl rfl rfl (by kernel_rfl) rfl ?_ ?_
      | refine E.storeAM 5 hM rfl rfl rfl (by kernel_rfl) rfl ?_ ?_
     · exact ones (by rfl) <| ones (by rfl) <| ones_nil
     intro w61 hM
     try dsimp only [Za, Zb, Zc, Zd, repl] at hM
     have hS := hM.toExt
     refine H.back hS ?_
     refine H.only 9 rfl (by kernel_rfl) ?_
     first
      | refine E.storeAM 0 hM rfl rfl rfl (by kernel_rfl) rfl ?_ ?_
      | refine E.storeAM 1 hM rfl rfl rfl (by kernel_rfl) rfl ?_ ?_
      | refine E.storeAM 2 hM rfl rfl rfl (by kernel_rfl) rfl ?_ ?_
      | refine E.storeAM 3 hM rfl rfl rfl (by kernel_rfl) rfl ?_ ?_
      | refine E.storeAM 4 hM rfl rfl rfl (by kernel_rfl) rfl ?_ ?_
      | refine E.storeAM 5 hM rfl rfl rfl (by kernel_rfl) rfl ?_ ?_
     · exact ones (by rfl) <| ones (by rfl) <| ones_nil
     intro w62 hM
     try dsimp only [Za, Zb, Zc, Zd, repl] at hM
     have hS := hM.toExt
     refine H.back hS ?_
     refine H.done (by kernel_rfl) ?_
     have hM := hM0.call hM

     refine X.join2 _ _ (Sub.cons rfl <| Sub.cons rfl <| Sub.nil _) rfl (by (try exact hM); (try exact hM.pick [0, 1, 2, 4, 3] (by decide)))
  rintro b9 b10 w63 hM
  refine C.seq <| C.drawn (by kernel_rfl) (by kernel_rfl) <| ?_
  refine Q.loadA (cs := [i64 (r.x - c.x), i64 (r.y - c.y)]) rfl Try.underlying64 rfl (by kernel_rfl) (hM.bat 3 rfl) rfl ?_
  refine Q.loadA (cs := [i64 (r.x - c.x), i64 (r.y - c.y)]) rfl Try.underlying64 rfl (by kernel_rfl) (hM.bat 3 rfl) rfl ?_
  refine Q.call (v := i64 (dt (r.x - c.x) (r.y - c.y) (r.x - c.x) (r.y - c.y))) rfl rfl (fun w' hw' => (dot_ret (r.x - c.x) (r.y - c.y) (r.x - c.x) (r.y - c.y) w' (by omega) (by omega) (by omega) (by omega)).mono fun _ _ h => h) ?_
  refine Q.call (v := i64 ru) rfl rfl (fun w' hw' => cu w') ?_
  refine Q.loadA (cs := [i64 (d.x - c.x), i64 (d.y - c.y)]) rfl Try.underlying64 rfl (by kernel_rfl) (hM.bat 4 rfl) rfl ?_
  refine Q.loadA (cs := [i64 (d.x - c.x), i64 (d.y - c.y)]) rfl Try.underlying64 rfl (by kernel_rfl) (hM.bat 4 rfl) rfl ?_
  refine Q.call (v := i64 (dt (d.x - c.x) (d.y - c.y) (d.x - c.x) (d.y - c.y))) rfl rfl (fun w' hw' => (dot_ret (d.x - c.x) (d.y - c.y) (d.x - c.x) (d.y - c.y) w' (by omega) (by omega) (by omega) (by omega)).mono fun _ _ h => h) ?_
  refine Q.call (v := i64 rv) rfl rfl (fun w' hw' => cv w') ?_
  refine Q.add rfl rfl (by omega) rfl ?_
  refine Q.mul rfl rfl (by omega) rfl ?_
  refine Q.asg rfl rfl <| Q.nil <| fun w64 hx64 => ?_
  have hM := hM.ext hx64
  refine X.next <| C.seq <| C.region <| ?_
  refine E.fld (o := 2) (sz := 0) rfl Try.underlying24 rfl rfl (by kernel_rfl) rfl ?_
  refine E.load rfl Try.underlying3 rfl (hM.bcell 0 rfl rfl) rfl ?_
  refine E.fld (o := 2) (sz := 0) rfl Try.underlying24 rfl rfl (by kernel_rfl) rfl ?_
  refine E.load rfl Try.underlying3 rfl (hM.bcell 1 rfl rfl) rfl ?_
  refine E.add rfl rfl (by omega) rfl ?_
  refine E.fld (o := 2) (sz := 0) rfl Try.underlying24 rfl rfl (by kernel_rfl) rfl ?_
  refine E.load rfl Try.underlying3 rfl (hM.bcell 2 rfl rfl) rfl ?_
  refine E.add rfl rfl (by omega) rfl ?_
  refine E.mul rfl rfl (by omega) rfl ?_
  obtain ⟨pp, hpp⟩ : ∃ z, z = 3 * (ru + rv) := ⟨_, rfl⟩
  obtain ⟨qq, hqq⟩ : ∃ z, z = 2 * (c.s + r.s + d.s) := ⟨_, rfl⟩
  rw [← hpp, ← hqq]
  have hq0 : 0 < qq := by omega
  refine E.asg rfl rfl <| E.nil <| X.next <| C.seq <| C.seq <| C.region <| E.mv rfl rfl <| E.mv rfl rfl <| ?_
  refine E.mul rfl rfl (by omega) rfl ?_
  refine E.bin rfl rfl rfl rfl <| E.nil <| X.next <| ?_
  refine C.cond' rfl (fun hC1 => ?_) (fun hC1 => ?_)
  ·
   refine C.seq <| C.region <| E.asg rfl rfl <| E.asg rfl rfl <| E.nil <| X.next <| C.ret <| X.retT <| ret2 rfl rfl rfl ?_
   exact ⟨.inr ⟨⟨hc, hr, hd⟩, ru, rv, hru, hrv, by rw [dim_lo hpp hqq (by omega)]⟩, hM.toExt⟩
  ·
   refine C.skip <| X.next <| C.seq <| C.region <| E.mv rfl rfl <| E.mv rfl rfl <| ?_
   refine E.mul rfl rfl (by omega) rfl ?_
   refine E.sub' rfl rfl (by omega) rfl ?_
   refine E.mv rfl rfl <| ?_
   refine E.mul rfl rfl (by omega) rfl ?_
   refine E.quo (c := (pp - 8 * qq) / (4 * qq)) rfl rfl (by omega) ((IntWalk.i64_in _ (by rw [Int.tdiv_eq_ediv_of_nonneg (by omega)]; have h1 := Int.ediv_nonneg (show 0 ≤ pp - 8 * qq by omega) (show 0 ≤ 4 * qq by omega); have h2 := Int.ediv_le_self (4 * qq) (show 0 ≤ pp - 8 * qq by omega); omega)).trans (Int.tdiv_eq_ediv_of_nonneg (by omega))) rfl ?_
   have hdl := div_lo hq0 (show 8 * qq ≤ pp by omega)
   have hdh := div_hi (p := pp) hq0
   obtain ⟨n, hn⟩ : ∃ z, z = (pp - 8 * qq) / (4 * qq) := ⟨_, rfl⟩
   rw [← hn] at hdl hdh ⊢
   refine E.asg rfl rfl <| E.nil <| X.next <| C.seq <| ?_

   refine C.chainE [(13, _)] rfl [(63, .bool (decide (n < 1 ∨ 40 < n)))] ?_ ?_
   ·
    refine C.region <| E.mv rfl rfl <| E.bin rfl rfl rfl rfl <| E.mv rfl rfl <| ?_
    refine E.split 60 rfl (fun g60 => ?_) (fun g60 => ?_)
    ·
     try simp only [Ya, Yb, Yc, Yd, Ye, Yf] at g60
     refine E.off rfl rfl rfl rfl <| E.off rfl rfl rfl rfl <| E.pick rfl rfl rfl <| E.nil <| X.join0 (Sub.cons (by exact leaf_t (by omega)) <| Sub.nil _) rfl rfl
    ·
     try simp only [Ya, Yb, Yc, Yd, Ye, Yf] at g60
     refine E.on rfl rfl (E.mv rfl rfl ?_)
     refine E.on rfl rfl (E.bin rfl rfl rfl rfl ?_)
     refine E.pick rfl rfl rfl <| E.nil <| X.join0 (Sub.cons (by exact leaf_d (by omega)) <| Sub.nil _) rfl rfl
   refine C.cond' rfl (fun hC2 => ?_) (fun hC2 => ?_)
   ·
    refine C.seq <| C.region <| E.asg rfl rfl <| E.asg rfl rfl <| E.nil <| X.next <| C.ret <| X.retT <| ret2 rfl rfl rfl ?_
    exact ⟨.inr ⟨⟨hc, hr, hd⟩, ru, rv, hru, hrv, by rcases hC2 with h | h; rw [dim_lo hpp hqq (hdl.1 h)]; rw [dim_hi hpp hqq (hdh.1 h)]⟩, hM.toExt⟩
   ·
    refine C.skip <| X.next <| C.seq <| C.region <| E.mv rfl rfl <| ?_
    refine E.mul rfl rfl (by omega) rfl ?_
    refine E.add rfl rfl (by omega) rfl ?_
    refine E.asg rfl rfl <| E.asg rfl rfl <| E.nil <| X.next <| C.ret <| ret2 rfl rfl rfl ?_
    exact ⟨.inr ⟨⟨hc, hr, hd⟩, ru, rv, hru, hrv, by rw [dim_in hpp hqq (fun h => by rcases h with h | h; have := hdl.2 h; omega; have := hdh.2 h; omega), ← hn]⟩, hM.toExt⟩
end Go.Proofs.Ytbinlkobmlebpaa
