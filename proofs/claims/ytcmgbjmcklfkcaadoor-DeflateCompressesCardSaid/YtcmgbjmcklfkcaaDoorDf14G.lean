/- chapter 34: the reference's Matches and Expand. -/
import Derived.Test.YtcmgbjmcklfkcaaDoorG30
import Derived.Test.YtcmgbjmcklfkcaaDoorG31
import Derived.Test.YtcmgbjmcklfkcaaDoorG32
namespace Go.Proofs.YtcmgbjmcklfkcaaDoor
set_option linter.unusedSimpArgs false
set_option linter.unusedVariables false
open Go.RowKit Sym

theorem Sym.M.as' {w0 w : World} {S : Nat → Prop} {rs rs' : List Rg} (h : M w0 S w rs) (e : rs = rs') : M w0 S w rs' := e ▸ h
theorem ints_ret (p q : Value) (a b : List Int) (w : World) (ha : RdL i64 w p a) (hb : RdL i64 w q b) :
    Ret Tryd.prog 17 #[p, q] w fun v w' => v = .bool (decide (a = b)) ∧ Ext w w' := by
  have hM := M.start w
  refine enter Tryd.func17 rfl (by kernel_rfl) Tryd.ntmps17 rfl ?_
  refine C.seq <| C.region <| E.asg rfl rfl <| E.nil <| X.next <| C.seq <| C.seq <| C.region <| E.mv rfl rfl <| ?_
  refine E.lenv rfl (Rd.shape (hM.arg0 ha)) Tryd.underlying29 rfl ?_
  refine E.mv rfl rfl <| ?_
  refine E.lenv rfl (Rd.shape (hM.arg0 hb)) Tryd.underlying29 rfl ?_
  refine E.bin rfl rfl rfl rfl <| E.nil <| X.next <| ?_
  refine C.cond' rfl (fun hC0 => ?_) (fun hC0 => ?_)
  ·
    refine C.seq <| C.region <| E.asg rfl rfl <| E.nil <| X.next <| C.ret <| X.retT <| ret1 rfl rfl ?_
    exact ⟨by rw [decide_eq_false]; intro e; subst e; exact hC0 rfl, hM.toExt⟩
  ·
    have hll : a.length = b.length := by omega
    have hle := Rd.le ha
    refine C.skip <| X.next <| C.seq <| C.seq <| C.region <| E.mv rfl rfl <| ?_
    refine E.lenv rfl (Rd.shape (hM.arg0 ha)) Tryd.underlying29 rfl ?_
    refine E.mv rfl rfl <| E.nil <| X.next <| C.block <| ?_

    refine C.loop1 [(0, _), (1, _), (12, _)] rfl (fun (i : Nat) => [(13, i64 i)]) (fun (i : Nat) w' => M w (Nn) w' [] ∧ i ≤ a.length ∧ a.take i = b.take i) (fun (i : Nat) => a.length - i) 0 ?_ ?_ ?_
    · exact Sub.cons rfl <| Sub.nil _
    · exact ⟨hM, Nat.zero_le _, rfl⟩
    rintro i w0 ⟨hM, hi, ht⟩
    refine C.seq <| C.region <| E.bin rfl rfl rfl rfl <| E.nil <| X.next <| C.seq <| ?_
    refine C.cond' rfl (fun hC1 => ?_) (fun hC1 => ?_)
    ·
      have hi' : i < a.length := by omega
      refine C.skip <| X.next <| C.seq <| C.block <| C.seq <| C.region <| E.mv rfl rfl <| E.asg rfl rfl <| E.nil <| X.next <| C.seq <| C.drawn (by kernel_rfl) (by kernel_rfl) <| Q.mv rfl rfl <| Q.mv rfl rfl <| ?_
      refine Q.idx1 (k := i) rfl rfl (hM.arg0 ha) rfl (by omega) Tryd.underlying29 (by kernel_rfl) rfl ?_
      refine Q.load rfl Tryd.underlying3 rfl ((hM.arg0 ha).cellA rfl (by omega)) rfl ?_
      refine Q.mv rfl rfl <| Q.mv rfl rfl <| ?_
      refine Q.idx1 (k := i) rfl rfl (hM.arg0 hb) rfl (by omega) Tryd.underlying29 (by kernel_rfl) rfl ?_
      refine Q.load rfl Tryd.underlying3 rfl ((hM.arg0 hb).cellA rfl (by omega)) rfl ?_
      refine Q.bin rfl rfl rfl rfl <| Q.nil <| fun w1 hx1 => ?_
      have hM := hM.ext hx1
      refine X.next <| ?_
      refine C.cond' rfl (fun hC2 => ?_) (fun hC2 => ?_)
      ·
        refine C.seq <| C.region <| E.asg rfl rfl <| E.nil <| X.next <| C.ret <| X.retB <| X.retT <| X.retT <| X.retB <| X.retT <| ret1 rfl rfl ?_
        exact ⟨by rw [decide_eq_false]; intro e; subst e; exact hC2 rfl, hM.toExt⟩
      ·
        refine C.skip <| X.outN <| X.next <| C.region <| ?_
        refine E.addN (a := i) (b := 1) rfl rfl (by omega) rfl ?_

        refine E.mv rfl rfl <| E.nil <| X.again1 (i + 1) (Sub.cons rfl <| Sub.nil _) rfl ⟨hM, by omega, by rw [← List.take_append_getElem hi', ← List.take_append_getElem (show i < b.length by omega), ht, Decidable.not_not.1 hC2]⟩ (by omega)
    ·
      obtain rfl : i = a.length := by omega
      have hee := ht
      rw [List.take_length, hll, List.take_length] at hee
      refine C.exit <| X.exitT <| X.exitT <| X.outE <| X.next <| C.seq <| C.region <| E.asg rfl rfl <| E.nil <| X.next <| C.ret <| ret1 rfl rfl ?_
      exact ⟨by rw [decide_eq_true]; exact hee, hM.toExt⟩

set_option maxHeartbeats 1000000 in
theorem requal_ret (p : Value) (l : List UInt8) (j a : Nat) (w : World) (hp : RdL u8 w p l) (hj : j < a) (hl : l.length ≤ 1000000) (ha : a ≤ l.length) :
    Ret Tryd.prog 62 #[p, i64 j, i64 a] w fun v w' => v = i64 (Df.eqn l j a : Int) ∧ Ext w w' := by
  have hM := M.start w
  refine enter Tryd.func62 rfl (by kernel_rfl) Tryd.ntmps62 rfl ?_
  refine C.seq <| C.region <| E.asg rfl rfl <| E.nil <| X.next <| C.seq <| C.region <| E.asg rfl rfl <| E.nil <| X.next <| C.seq <| C.block <| ?_

  refine C.loop1 [(0, _), (1, _), (2, _)] rfl (fun (n : Nat) => [(7, i64 n)]) (fun (n : Nat) w' => M w (Nn) w' [] ∧ n ≤ 258 ∧ Df.ego l j a (258 - n) n = Df.eqn l j a) (fun (n : Nat) => 258 - n) 0 ?_ ?_ ?_
  · exact Sub.cons rfl <| Sub.nil _
  · exact ⟨hM, by omega, rfl⟩
  rintro n w0 ⟨hM, hn, he⟩
  refine C.seq <| ?_

  refine C.chainQ [(0, _), (1, _), (2, _), (7, _)] rfl [(32, .bool (decide (n < 258 ∧ a + n < l.length ∧ l.getD (j + n) 0 = l.getD (a + n) 0)))] ?_ ?_
  ·
    refine C.drawn (by kernel_rfl) (by kernel_rfl) <| Q.mv rfl rfl <| Q.bin rfl rfl rfl rfl <| Q.mv rfl rfl <| ?_
    refine Q.split 10 rfl (fun g10 => ?_) (fun g10 => ?_)
    ·
      try simp only [decide_eq_true_eq, decide_eq_false_iff_not, ne_eq, Decidable.not_not, Bool.not_eq_true', Bool.not_eq_false'] at g10
      refine Q.on rfl rfl (Q.mv rfl rfl ?_)
      refine Q.on rfl rfl (Q.mv rfl rfl ?_)
      refine Q.on rfl rfl (Q.addN (a := a) (b := n) rfl rfl (by omega) rfl ?_)
      refine Q.on rfl rfl (Q.mv rfl rfl ?_)
      refine Q.on rfl rfl (Q.lenv rfl (Rd.shape (hM.arg0 hp)) Tryd.underlying22 rfl ?_)
      refine Q.on rfl rfl (Q.bin rfl rfl rfl rfl ?_)
      refine Q.pick rfl rfl rfl <| Q.mv rfl rfl <| ?_
      refine Q.split 18 rfl (fun g18 => ?_) (fun g18 => ?_)
      ·
        try simp only [decide_eq_true_eq, decide_eq_false_iff_not, ne_eq, Decidable.not_not, Bool.not_eq_true', Bool.not_eq_false'] at g18
        have g1 := gdU (l := l) (i := j + n) (by omega)
        have g2 := gdU (l := l) (i := a + n) (by omega)
        refine Q.on rfl rfl (Q.mv rfl rfl ?_)
        refine Q.on rfl rfl (Q.mv rfl rfl ?_)
        refine Q.on rfl rfl (Q.mv rfl rfl ?_)
        refine Q.on rfl rfl (Q.addN (a := j) (b := n) rfl rfl (by omega) rfl ?_)
        refine Q.on rfl rfl (Q.idx1 (k := j + n) rfl rfl (hM.arg0 hp) rfl (by omega) Tryd.underlying22 (by kernel_rfl) rfl ?_)
        refine Q.on rfl rfl (Q.load rfl Tryd.underlying5 rfl ((hM.arg0 hp).cell (by omega)) rfl ?_)
        refine Q.on rfl rfl (Q.mv rfl rfl ?_)
        refine Q.on rfl rfl (Q.mv rfl rfl ?_)
        refine Q.on rfl rfl (Q.mv rfl rfl ?_)
        refine Q.on rfl rfl (Q.addN (a := a) (b := n) rfl rfl (by omega) rfl ?_)
        refine Q.on rfl rfl (Q.idx1 (k := a + n) rfl rfl (hM.arg0 hp) rfl (by omega) Tryd.underlying22 (by kernel_rfl) rfl ?_)
        refine Q.on rfl rfl (Q.load rfl Tryd.underlying5 rfl ((hM.arg0 hp).cell (by omega)) rfl ?_)
        refine Q.on rfl rfl (Q.bin rfl rfl rfl rfl ?_)
        rw [show (decide (((l[j + n]'(by omega)).toNat : Int) = ((l[a + n]'(by omega)).toNat : Int))) = decide (l.getD (j + n) 0 = l.getD (a + n) 0) by rw [g1, g2]; exact decide_eq_decide.2 ⟨fun h => Df.u8_ext (by omega), fun h => by rw [h]⟩]
        refine Q.pick rfl rfl rfl <| Q.nil <| fun w1 hx1 => ?_
        refine X.join0 (Sub.cons (by first | exact leaf_f (by omega) | exact leaf_d ⟨fun h => ⟨by omega, by omega, h⟩, fun h => h.2.2⟩ | exact leaf_d (by omega)) <| Sub.nil _) rfl hx1
      ·
        try simp only [decide_eq_true_eq, decide_eq_false_iff_not, ne_eq, Decidable.not_not, Bool.not_eq_true', Bool.not_eq_false'] at g18
        refine Q.off rfl rfl rfl rfl <| Q.off rfl rfl rfl rfl <| Q.off rfl rfl rfl rfl <| Q.off rfl rfl rfl rfl <| Q.off rfl rfl rfl rfl <| Q.off rfl rfl rfl rfl <| Q.off rfl rfl rfl rfl <| Q.off rfl rfl rfl rfl <| Q.off rfl rfl rfl rfl <| Q.off rfl rfl rfl rfl <| Q.off rfl rfl rfl rfl <| Q.off rfl rfl rfl rfl <| Q.off rfl rfl rfl rfl <| Q.pick rfl rfl rfl <| Q.nil <| fun w2 hx2 => ?_
        refine X.join0 (Sub.cons (by first | exact leaf_f (by omega) | exact leaf_d ⟨fun h => ⟨by omega, by omega, h⟩, fun h => h.2.2⟩ | exact leaf_d (by omega)) <| Sub.nil _) rfl hx2
    ·
      try simp only [decide_eq_true_eq, decide_eq_false_iff_not, ne_eq, Decidable.not_not, Bool.not_eq_true', Bool.not_eq_false'] at g10
      refine Q.off rfl rfl rfl rfl <| Q.off rfl rfl rfl rfl <| Q.off rfl rfl rfl rfl <| Q.off rfl rfl rfl rfl <| Q.off rfl rfl rfl rfl <| Q.off rfl rfl rfl rfl <| Q.pick rfl rfl rfl <| Q.mv rfl rfl <| Q.off rfl rfl rfl rfl <| Q.off rfl rfl rfl rfl <| Q.off rfl rfl rfl rfl <| Q.off rfl rfl rfl rfl <| Q.off rfl rfl rfl rfl <| Q.off rfl rfl rfl rfl <| Q.off rfl rfl rfl rfl <| Q.off rfl rfl rfl rfl <| Q.off rfl rfl rfl rfl <| Q.off rfl rfl rfl rfl <| Q.off rfl rfl rfl rfl <| Q.off rfl rfl rfl rfl <| Q.off rfl rfl rfl rfl <| Q.pick rfl rfl rfl <| Q.nil <| fun w3 hx3 => ?_
      refine X.join0 (Sub.cons (by first | exact leaf_f (by omega) | exact leaf_d ⟨fun h => ⟨by omega, by omega, h⟩, fun h => h.2.2⟩ | exact leaf_d (by omega)) <| Sub.nil _) rfl hx3
  intro w4 hx4
  have hM := hM.ext hx4
  refine C.cond' rfl (fun hC0 => ?_) (fun hC0 => ?_)
  ·
    have he' : Df.ego l j a (258 - (n + 1)) (n + 1) = Df.eqn l j a := by
      rw [← he, show 258 - n = 258 - (n + 1) + 1 by omega, Df.ego, if_pos hC0.2]
    refine C.skip <| X.next <| C.block <| C.region <| E.mv rfl rfl <| ?_
    refine E.addN (a := n) (b := 1) rfl rfl (by omega) rfl ?_

    refine E.asg rfl rfl <| E.nil <| X.outN <| X.again1 (n + 1) (Sub.cons rfl <| Sub.nil _) rfl ⟨hM, by omega, he'⟩ (by omega)
  ·
    have hfin : Df.eqn l j a = n := by
      rw [← he]
      cases h : 258 - n with
      | zero => rfl
      | succ f => rw [Df.ego, if_neg (fun c => hC0 ⟨by omega, c⟩)]
    refine C.exit <| X.exitT <| X.exitT <| X.outE <| X.next <| C.seq <| C.region <| E.mv rfl rfl <| E.asg rfl rfl <| E.nil <| X.next <| C.ret <| ret1 rfl rfl ?_
    exact ⟨by rw [hfin], hM.toExt⟩

set_option maxHeartbeats 1000000 in
theorem rbest_ret (p : Value) (l : List UInt8) (a : Nat) (w : World) (hp : RdL u8 w p l) (ha : a < l.length) (hl : l.length ≤ 32768) :
    Ret Tryd.prog 36 #[p, i64 a] w fun v w' => v = .tuple #[i64 ((Df.bst l a).1 : Int), i64 ((Df.bst l a).2 : Int)] ∧ Ext w w' := by
  have hM := M.start w
  refine enter Tryd.func36 rfl (by kernel_rfl) Tryd.ntmps36 rfl ?_
  refine C.seq <| C.region <| E.asg rfl rfl <| E.asg rfl rfl <| E.nil <| X.next <| C.seq <| C.region <| E.asg rfl rfl <| E.nil <| X.next <| C.seq <| C.region <| E.asg rfl rfl <| E.nil <| X.next <| C.seq <| C.region <| E.asg rfl rfl <| E.nil <| X.next <| C.seq <| C.seq <| C.region <| E.mv rfl rfl <| ?_
  refine E.sub' rfl rfl (by omega) rfl ?_
  refine E.asg rfl rfl <| E.nil <| X.next <| C.block <| ?_

  refine C.loop4 [(0, _), (1, _)] rfl (fun (j : Nat) (len : Nat) (dist : Nat) (n : Nat) => [(6, i64 len), (7, i64 dist), (8, i64 n), (9, i64 ((j : Int) - 1))]) (fun (j : Nat) (len : Nat) (dist : Nat) (n : Nat) w' => M w (Nn) w' [] ∧ n ≤ 32 ∧ j ≤ a ∧ len ≤ 258 ∧ dist ≤ a ∧ Df.bgo l a j len dist n = Df.bst l a) (fun (j : Nat) (len : Nat) (dist : Nat) (n : Nat) => j) a 0 0 0 ?_ ?_ ?_
  · exact Sub.cons rfl <| Sub.cons rfl <| Sub.cons rfl <| Sub.cons rfl <| Sub.nil _
  · exact ⟨hM, by omega, Nat.le_refl _, by omega, by omega, rfl⟩
  rintro j len dist n w0 ⟨hM, hn, hja, hle, hdi, hbg⟩
  refine C.seq <| ?_

  refine C.chainE [(0, _), (1, _), (6, _), (7, _), (8, _), (9, _)] rfl [(24, .bool (decide (0 < j ∧ n < 32)))] ?_ ?_
  ·
    refine C.region <| E.mv rfl rfl <| E.bin rfl rfl rfl rfl <| E.mv rfl rfl <| ?_
    refine E.split 15 rfl (fun g15 => ?_) (fun g15 => ?_)
    ·
      try simp only [decide_eq_true_eq, decide_eq_false_iff_not, ne_eq, Decidable.not_not, Bool.not_eq_true', Bool.not_eq_false'] at g15
      refine E.on rfl rfl (E.mv rfl rfl ?_)
      refine E.on rfl rfl (E.mv rfl rfl ?_)
      refine E.on rfl rfl (E.sub' rfl rfl (by omega) rfl ?_)
      refine E.on rfl rfl (E.bin rfl rfl rfl rfl ?_)
      refine E.pick rfl rfl rfl <| E.mv rfl rfl <| ?_
      refine E.split 21 rfl (fun g21 => ?_) (fun g21 => ?_)
      ·
        try simp only [decide_eq_true_eq, decide_eq_false_iff_not, ne_eq, Decidable.not_not, Bool.not_eq_true', Bool.not_eq_false'] at g21
        refine E.on rfl rfl (E.mv rfl rfl ?_)
        refine E.on rfl rfl (E.bin rfl rfl rfl rfl ?_)
        refine E.pick rfl rfl rfl <| E.nil <| X.join0 (Sub.cons (by (first | exact leaf_f (by omega) | exact leaf_t (by omega) | exact leaf_d (by omega) | exact leaf_f (by first | (simp [*] <;> fail) | omega) | exact leaf_t (by first | (simp [*] <;> fail) | omega) | exact leaf_d (by first | (simp [*] <;> fail) | omega) | exact leaf_f (by (first | omega | ((try simp only [decide_eq_true_eq, decide_eq_false_iff_not, Bool.not_eq_true', Bool.not_eq_false'] at *); first | omega | (simp_all <;> fail) | (simp_all; omega)))) | exact leaf_t (by (first | omega | ((try simp only [decide_eq_true_eq, decide_eq_false_iff_not, Bool.not_eq_true', Bool.not_eq_false'] at *); first | omega | (simp_all <;> fail) | (simp_all; omega)))) | exact leaf_d (by (first | omega | ((try simp only [decide_eq_true_eq, decide_eq_false_iff_not, Bool.not_eq_true', Bool.not_eq_false'] at *); first | omega | (simp_all <;> fail) | (simp_all; omega)))))) <| Sub.nil _) rfl rfl
      ·
        try simp only [decide_eq_true_eq, decide_eq_false_iff_not, ne_eq, Decidable.not_not, Bool.not_eq_true', Bool.not_eq_false'] at g21
        refine E.off rfl rfl rfl rfl <| E.off rfl rfl rfl rfl <| E.pick rfl rfl rfl <| E.nil <| X.join0 (Sub.cons (by (first | exact leaf_f (by omega) | exact leaf_t (by omega) | exact leaf_d (by omega) | exact leaf_f (by first | (simp [*] <;> fail) | omega) | exact leaf_t (by first | (simp [*] <;> fail) | omega) | exact leaf_d (by first | (simp [*] <;> fail) | omega) | exact leaf_f (by (first | omega | ((try simp only [decide_eq_true_eq, decide_eq_false_iff_not, Bool.not_eq_true', Bool.not_eq_false'] at *); first | omega | (simp_all <;> fail) | (simp_all; omega)))) | exact leaf_t (by (first | omega | ((try simp only [decide_eq_true_eq, decide_eq_false_iff_not, Bool.not_eq_true', Bool.not_eq_false'] at *); first | omega | (simp_all <;> fail) | (simp_all; omega)))) | exact leaf_d (by (first | omega | ((try simp only [decide_eq_true_eq, decide_eq_false_iff_not, Bool.not_eq_true', Bool.not_eq_false'] at *); first | omega | (simp_all <;> fail) | (simp_all; omega)))))) <| Sub.nil _) rfl rfl
    ·
      try simp only [decide_eq_true_eq, decide_eq_false_iff_not, ne_eq, Decidable.not_not, Bool.not_eq_true', Bool.not_eq_false'] at g15
      refine E.off rfl rfl rfl rfl <| E.off rfl rfl rfl rfl <| E.off rfl rfl rfl rfl <| E.off rfl rfl rfl rfl <| E.pick rfl rfl rfl <| E.mv rfl rfl <| E.off rfl rfl rfl rfl <| E.off rfl rfl rfl rfl <| E.pick rfl rfl rfl <| E.nil <| X.join0 (Sub.cons (by (first | exact leaf_f (by omega) | exact leaf_t (by omega) | exact leaf_d (by omega) | exact leaf_f (by first | (simp [*] <;> fail) | omega) | exact leaf_t (by first | (simp [*] <;> fail) | omega) | exact leaf_d (by first | (simp [*] <;> fail) | omega) | exact leaf_f (by (first | omega | ((try simp only [decide_eq_true_eq, decide_eq_false_iff_not, Bool.not_eq_true', Bool.not_eq_false'] at *); first | omega | (simp_all <;> fail) | (simp_all; omega)))) | exact leaf_t (by (first | omega | ((try simp only [decide_eq_true_eq, decide_eq_false_iff_not, Bool.not_eq_true', Bool.not_eq_false'] at *); first | omega | (simp_all <;> fail) | (simp_all; omega)))) | exact leaf_d (by (first | omega | ((try simp only [decide_eq_true_eq, decide_eq_false_iff_not, Bool.not_eq_true', Bool.not_eq_false'] at *); first | omega | (simp_all <;> fail) | (simp_all; omega)))))) <| Sub.nil _) rfl rfl
  refine C.cond' rfl (fun hC0 => ?_) (fun hC0 => ?_)
  ·
    obtain ⟨q, rfl⟩ : ∃ q, j = q + 1 := ⟨j - 1, by omega⟩
    rw [Df.bgo, if_neg (by omega)] at hbg
    rw [show ((q + 1 : Nat) : Int) - 1 = (q : Int) by omega]
    have heq := (Df.eqn_spec l q a).1
    refine C.skip <| X.next <| ?_

    refine C.cut3 [(0, _), (1, _), (9, _)] rfl (fun (len : Nat) (dist : Nat) (n : Nat) => [(6, i64 len), (7, i64 dist), (8, i64 n)]) (fun (len : Nat) (dist : Nat) (n : Nat) w' => M w (Nn) w' [] ∧ n ≤ 32 ∧ len ≤ 258 ∧ dist ≤ a ∧ Df.bgo l a q len dist n = Df.bst l a) ?_ ?_
    ·
      refine C.block <| C.seq <| C.region <| E.mv rfl rfl <| E.mv rfl rfl <| E.mv rfl rfl <| ?_
      refine E.call rfl rfl (requal_ret p l q a _ (hM.arg0 hp) (by omega) (by omega) (by omega)) ?_
      rintro _ w3 ⟨rfl, x3⟩
      have hM := hM.ext x3
      try dsimp only [List.nil_append, List.cons_append, List.set_cons_zero, List.set_cons_succ, repl] at hM
      refine E.asg rfl rfl <| E.nil <| X.next <| C.seq <| C.region <| E.mv rfl rfl <| E.bin rfl rfl rfl rfl <| E.nil <| X.next <| ?_
      refine C.cond' rfl (fun hC1 => ?_) (fun hC1 => ?_)
      ·
        rw [if_pos (show 3 ≤ Df.eqn l q a by omega)] at hbg
        refine C.seq <| C.region <| E.mv rfl rfl <| ?_
        refine E.addN (a := n) (b := 1) rfl rfl (by omega) rfl ?_
        refine E.asg rfl rfl <| E.nil <| X.next <| C.seq <| C.region <| E.mv rfl rfl <| E.mv rfl rfl <| E.bin rfl rfl rfl rfl <| E.nil <| X.next <| ?_
        refine C.cond' rfl (fun hC2 => ?_) (fun hC2 => ?_)
        ·
          rw [if_pos (show len < Df.eqn l q a by omega)] at hbg
          refine C.seq <| C.region <| E.mv rfl rfl <| E.asg rfl rfl <| E.nil <| X.next <| C.region <| E.mv rfl rfl <| E.mv rfl rfl <| ?_
          refine E.subN (a := a) (b := q) rfl rfl (by omega) rfl ?_

          refine E.asg rfl rfl <| E.nil <| X.outN <| X.join3 (Df.eqn l q a) (a - q) (n + 1) (Sub.cons rfl <| Sub.cons rfl <| Sub.cons rfl <| Sub.nil _) rfl ⟨hM, by omega, heq, by omega, hbg⟩
        ·
          rw [if_neg (show ¬ len < Df.eqn l q a by omega)] at hbg

          refine C.skip <| X.outN <| X.join3 len dist (n + 1) (Sub.cons rfl <| Sub.cons rfl <| Sub.cons rfl <| Sub.nil _) rfl ⟨hM, by omega, hle, hdi, hbg⟩
      ·
        rw [if_neg (show ¬ 3 ≤ Df.eqn l q a by omega)] at hbg

        refine C.skip <| X.outN <| X.join3 len dist n (Sub.cons rfl <| Sub.cons rfl <| Sub.cons rfl <| Sub.nil _) rfl ⟨hM, hn, hle, hdi, hbg⟩
    rintro len dist n w2 ⟨hM, hn, hle, hdi, hbg⟩
    refine C.region <| E.mv rfl rfl <| ?_
    refine E.sub' rfl rfl (by omega) rfl ?_

    refine E.asg rfl rfl <| E.nil <| X.again4 q len dist n (Sub.cons rfl <| Sub.cons rfl <| Sub.cons rfl <| Sub.cons rfl <| Sub.nil _) rfl ⟨hM, hn, by omega, hle, hdi, hbg⟩ (by omega)
  ·
    have hfin : Df.bst l a = (len, dist) := by
      rw [← hbg]
      by_cases h32 : n < 32
      · obtain rfl : j = 0 := by omega
        rfl
      · exact Df.bgo_full (by omega) j
    refine C.exit <| X.exitT <| X.exitT <| X.outE <| X.next <| C.seq <| C.region <| E.mv rfl rfl <| E.mv rfl rfl <| E.asg rfl rfl <| E.asg rfl rfl <| E.nil <| X.next <| C.ret <| ret2 rfl rfl rfl ?_
    exact ⟨by rw [hfin], hM.toExt⟩

set_option maxHeartbeats 1000000 in
theorem rMatches_ret (p : Value) (l : List UInt8) (w : World) (hp : RdL u8 w p l) (hl : l.length ≤ 32768) :
    Ret Tryd.prog 14 #[p] w fun v w' => ∃ vt, v = .tuple #[vt, i64 0] ∧ M w Nn w' [Rg.sl i64 3 vt (nz (Df.toks l 0))] := by
  have hM := M.start w
  refine enter Tryd.func14 rfl (by kernel_rfl) Tryd.ntmps14 rfl ?_
  refine C.seq <| C.region <| E.asg rfl rfl <| E.asg rfl rfl <| E.nil <| X.next <| C.seq <| C.seq <| C.region <| E.mv rfl rfl <| ?_
  refine E.lenv rfl (Rd.shape (hM.arg0 hp)) Tryd.underlying22 rfl ?_
  refine E.bin rfl rfl rfl rfl <| E.nil <| X.next <| ?_
  refine C.cond' rfl (fun hC0 => ?_) (fun hC0 => ?_)
  ·
    omega
  ·
    refine C.skip <| X.next <| C.seq <| C.region <| E.asg rfl rfl <| E.nil <| X.next <| C.seq <| C.region <| E.asg rfl rfl <| E.nil <| X.next <| C.seq <| C.block <| ?_
    have hM := hM.nil i64 3
    try dsimp only [List.nil_append, List.cons_append, List.set_cons_zero, List.set_cons_succ, repl] at hM

    refine C.loop3 [(0, _)] rfl (fun (a : Nat) (ts : (List Nat)) (vt : Value) => [(4, vt), (5, i64 a)]) (fun (a : Nat) (ts : (List Nat)) (vt : Value) w' => M w (Nn) w' [Rg.sl i64 3 vt (nz ts)] ∧ a ≤ l.length ∧ Df.toks l 0 = ts ++ Df.toks l a ∧ ts.length ≤ a) (fun (a : Nat) (ts : (List Nat)) (vt : Value) => l.length - a) 0 [] (.slice none 0 0) ?_ ?_ ?_
    · exact Sub.cons rfl <| Sub.cons rfl <| Sub.nil _
    · exact ⟨hM, Nat.zero_le _, rfl, Nat.le_refl _⟩
    rintro a ts vt w0 ⟨hM, ha, htk, htl⟩
    refine C.seq <| C.seq <| C.region <| E.mv rfl rfl <| E.mv rfl rfl <| ?_
    refine E.lenv rfl (Rd.shape (hM.arg0 hp)) Tryd.underlying22 rfl ?_
    refine E.bin rfl rfl rfl rfl <| E.nil <| X.next <| ?_
    refine C.cond' rfl (fun hC1 => ?_) (fun hC1 => ?_)
    ·
      have ha' : a < l.length := by omega
      obtain ⟨gb1, gb2, gb3⟩ := Df.bst_bd ha'
      have hnl := nz_len ts
      refine C.skip <| X.next <| C.block <| C.seq <| C.region <| E.mv rfl rfl <| E.mv rfl rfl <| ?_
      refine E.call rfl rfl (rbest_ret p l a _ (hM.arg0 hp) ha' hl) ?_
      rintro _ w4 ⟨rfl, x4⟩
      have hM := hM.ext x4
      try dsimp only [List.nil_append, List.cons_append, List.set_cons_zero, List.set_cons_succ, repl] at hM
      refine E.mv rfl rfl <| E.ext rfl rfl rfl <| E.ext rfl rfl rfl <| E.asg rfl rfl <| E.asg rfl rfl <| E.nil <| X.next <| C.seq <| C.region <| E.mv rfl rfl <| E.bin rfl rfl rfl rfl <| E.nil <| X.next <| ?_
      refine C.cond' rfl (fun hC2 => ?_) (fun hC2 => ?_)
      ·
        have h0 : (Df.bst l a).1 = 0 := by omega
        have hb8 := l[a].toNat_lt
        rw [Df.toks_lit ha' h0, gdU ha'] at htk
        refine C.seq <| C.region <| E.mv rfl rfl <| E.mv rfl rfl <| E.mv rfl rfl <| ?_
        refine E.get (k := a) rfl rfl (hM.arg0 hp) rfl (by omega) Tryd.underlying22 (by kernel_rfl) Tryd.underlying5 rfl rfl rfl ?_
        refine E.conv rfl Tryd.underlying5 Tryd.underlying3 (IntWalk.i64_in _ (by omega)) rfl ?_
        refine E.pushM (enc := i64) 0 (l[a].toNat : Int) hM rfl rfl rfl Tryd.underlying29 elem_Tint rfl (by omega) (by omega) (by simp) rfl rfl ?_
        intro v30 u30 w2 hM
        try dsimp only [List.nil_append, List.cons_append, List.set_cons_zero, List.set_cons_succ, repl] at hM
        rw [nz_snoc] at hM
        refine E.asg rfl rfl <| E.nil <| X.next <| C.region <| E.mv rfl rfl <| ?_
        refine E.addN (a := a) (b := 1) rfl rfl (by omega) rfl ?_

        refine E.asg rfl rfl <| E.nil <| X.outN <| X.again3 (a + 1) (ts ++ [l[a].toNat]) v30 (Sub.cons rfl <| Sub.cons rfl <| Sub.nil _) rfl ⟨hM, by omega, by rw [htk, List.append_assoc]; rfl, by rw [List.length_append, List.length_singleton]; omega⟩ (by omega)
      ·
        have h0 : ¬ (Df.bst l a).1 = 0 := by omega
        rw [Df.toks_mat ha' h0] at htk
        refine C.seq <| C.region <| E.mv rfl rfl <| E.mv rfl rfl <| ?_
        refine E.mulN (a := (Df.bst l a).1) (b := 65536) rfl rfl (by omega) rfl ?_
        refine E.mv rfl rfl <| ?_
        refine E.addN (a := (Df.bst l a).1 * 65536) (b := (Df.bst l a).2) rfl rfl (by omega) rfl ?_
        refine E.pushM (enc := i64) 0 (((Df.bst l a).1 * 65536 + (Df.bst l a).2 : Nat) : Int) hM rfl rfl rfl Tryd.underlying29 elem_Tint rfl (by omega) (by omega) (by simp) rfl rfl ?_
        intro v39 u39 w3 hM
        try dsimp only [List.nil_append, List.cons_append, List.set_cons_zero, List.set_cons_succ, repl] at hM
        rw [nz_snoc] at hM
        refine E.asg rfl rfl <| E.nil <| X.next <| C.region <| E.mv rfl rfl <| E.mv rfl rfl <| ?_
        refine E.addN (a := a) (b := (Df.bst l a).1) rfl rfl (by omega) rfl ?_

        refine E.asg rfl rfl <| E.nil <| X.outN <| X.again3 (a + (Df.bst l a).1) (ts ++ [(Df.bst l a).1 * 65536 + (Df.bst l a).2]) v39 (Sub.cons rfl <| Sub.cons rfl <| Sub.nil _) rfl ⟨hM, gb3, by rw [htk, List.append_assoc]; rfl, by rw [List.length_append, List.length_singleton]; omega⟩ (by omega)
    ·
      rw [Df.toks_end (show l.length ≤ a by omega), List.append_nil] at htk
      refine C.exit <| X.exitT <| X.exitT <| X.outE <| X.next <| C.seq <| C.region <| E.mv rfl rfl <| E.asg rfl rfl <| E.asg rfl rfl <| E.nil <| X.next <| C.ret <| ret2 rfl rfl rfl ?_
      exact ⟨vt, rfl, by rw [htk]; exact hM⟩

/-- k bytes of a token -/
def rxt (t : Int) (d : Nat) (out : List UInt8) (k : Nat) : List UInt8 := if t ≤ 255 then out ++ List.replicate k (UInt8.ofNat t.toNat) else Df.rp d out k
theorem rxt_zero (t : Int) (d : Nat) (out : List UInt8) : rxt t d out 0 = out := by
  unfold rxt; split
  · simp
  · rfl
theorem rxt_len (t : Int) (d : Nat) (out : List UInt8) (k : Nat) : (rxt t d out k).length = out.length + k := by
  unfold rxt; split
  · simp
  · exact Df.rp_len d out k
theorem rxt_lit {t : Int} {d : Nat} {out : List UInt8} {k : Nat} (h : t ≤ 255) : rxt t d out (k + 1) = rxt t d out k ++ [UInt8.ofNat t.toNat] := by
  unfold rxt; rw [if_pos h, if_pos h, List.append_assoc, ← List.replicate_succ']
theorem rxt_mat {t : Int} {d : Nat} {out : List UInt8} {k : Nat} (h : ¬ t ≤ 255) : rxt t d out (k + 1) = rxt t d out k ++ [(rxt t d out k).getD ((rxt t d out k).length - d) 0] := by
  unfold rxt; rw [if_neg h, if_neg h]; rfl
set_option maxHeartbeats 2000000 in
theorem rExpand_ret (p : Value) (zs : List Int) (w : World) (hr : RdL i64 w p zs) (hbd : ∀ z ∈ zs, -9223372036854775808 ≤ z ∧ z ≤ 9223372036854775807) :
    Ret Tryd.prog 16 #[p] w fun v w' => ∃ vo, v = .tuple #[vo, i64 (Df.exv [] zs).2] ∧ M w Nn w' [Rg.sl u8 5 vo (Df.exv [] zs).1] := by
  have hM := M.start w
  refine enter Tryd.func16 rfl (by kernel_rfl) Tryd.ntmps16 rfl ?_
  refine C.seq <| C.region <| E.asg rfl rfl <| E.asg rfl rfl <| E.nil <| X.next <| C.seq <| C.region <| E.asg rfl rfl <| E.nil <| X.next <| C.seq <| C.seq <| C.region <| E.asg rfl rfl <| E.nil <| X.next <| C.block <| ?_
  have hM := hM.nil u8 5
  try dsimp only [List.nil_append, List.cons_append, List.set_cons_zero, List.set_cons_succ, repl] at hM
  have hle := Rd.le hr

  refine C.loop3 [(0, _)] rfl (fun (i : Nat) (out : (List UInt8)) (vo : Value) => [(4, vo), (5, i64 i)]) (fun (i : Nat) (out : (List UInt8)) (vo : Value) w' => M w (Nn) w' [Rg.sl u8 5 vo out] ∧ i ≤ zs.length ∧ out.length ≤ 16777216 ∧ Df.exv [] zs = Df.exv out (zs.drop i)) (fun (i : Nat) (out : (List UInt8)) (vo : Value) => zs.length - i) 0 [] (.slice none 0 0) ?_ ?_ ?_
  · exact Sub.cons rfl <| Sub.cons rfl <| Sub.nil _
  · exact ⟨hM, Nat.zero_le _, by simp, rfl⟩
  rintro i out vo w0 ⟨hM, hi, hol, hE⟩
  refine C.seq <| C.seq <| C.region <| E.mv rfl rfl <| E.mv rfl rfl <| ?_
  refine E.lenv rfl (Rd.shape (hM.arg0 hr)) Tryd.underlying29 rfl ?_
  refine E.bin rfl rfl rfl rfl <| E.nil <| X.next <| ?_
  refine C.cond' rfl (fun hC0 => ?_) (fun hC0 => ?_)
  ·
    have hi' : i < zs.length := by omega
    rw [drop_cons hi'] at hE
    obtain ⟨t, hte⟩ : ∃ t, t = zs[i] := ⟨_, rfl⟩
    have htb := hbd zs[i] (List.getElem_mem hi')
    rw [← hte] at hE htb
    obtain ⟨qn, hqn⟩ : ∃ q, q = t.tdiv 65536 := ⟨_, rfl⟩
    obtain ⟨qd, hqd⟩ : ∃ q, q = t.tmod 65536 := ⟨_, rfl⟩
    have hq1 : 0 ≤ t → qn = t / 65536 := fun h => by rw [hqn]; exact Int.tdiv_eq_ediv_of_nonneg h
    have hq2 : 0 ≤ t → qd = t % 65536 := fun h => by rw [hqd]; exact Int.tmod_eq_emod_of_nonneg h
    refine C.skip <| X.next <| C.seq <| C.block <| C.seq <| C.region <| E.mv rfl rfl <| E.mv rfl rfl <| ?_
    refine E.get (k := i) rfl rfl (hM.arg0 hr) rfl (by omega) Tryd.underlying29 (by kernel_rfl) Tryd.underlying3 rfl rfl rfl ?_
    rw [← hte]
    refine E.quo rfl rfl (by omega) ((IntWalk.i64_quo' t 65536 (by omega)).trans hqn.symm) rfl ?_
    refine E.asg rfl rfl <| E.nil <| X.next <| C.seq <| C.region <| E.mv rfl rfl <| E.mv rfl rfl <| ?_
    refine E.get (k := i) rfl rfl (hM.arg0 hr) rfl (by omega) Tryd.underlying29 (by kernel_rfl) Tryd.underlying3 rfl rfl rfl ?_
    rw [← hte]
    refine E.rem rfl rfl (by omega) hqd.symm rfl ?_
    refine E.asg rfl rfl <| E.nil <| X.next <| C.seq <| ?_

    refine C.chainE [(0, _), (4, _), (5, _), (6, _), (7, _)] rfl [(53, .bool (decide (¬ (0 ≤ t ∧ t ≤ 255) ∧ (t / 65536 < 3 ∨ 258 < t / 65536 ∨ t % 65536 < 1 ∨ 32768 < t % 65536))))] ?_ ?_
    ·
      refine C.region <| E.mv rfl rfl <| E.mv rfl rfl <| ?_
      refine E.get (k := i) rfl rfl (hM.arg0 hr) rfl (by omega) Tryd.underlying29 (by kernel_rfl) Tryd.underlying3 rfl rfl rfl ?_
      rw [← hte]
      refine E.bin rfl rfl rfl rfl <| E.mv rfl rfl <| ?_
      refine E.split 31 rfl (fun g31 => ?_) (fun g31 => ?_)
      ·
        try simp only [decide_eq_true_eq, decide_eq_false_iff_not, ne_eq, Decidable.not_not, Bool.not_eq_true', Bool.not_eq_false'] at g31
        refine E.off rfl rfl rfl rfl <| E.off rfl rfl rfl rfl <| E.off rfl rfl rfl rfl <| E.off rfl rfl rfl rfl <| E.off rfl rfl rfl rfl <| E.off rfl rfl rfl rfl <| E.offu rfl rfl rfl <| E.offu rfl rfl rfl <| E.offu rfl rfl rfl <| E.offu rfl rfl rfl <| E.offu rfl rfl rfl <| E.offu rfl rfl rfl <| E.offu rfl rfl rfl <| E.offu rfl rfl rfl <| E.offu rfl rfl rfl <| E.offu rfl rfl rfl <| E.offu rfl rfl rfl <| E.offu rfl rfl rfl <| E.offu rfl rfl rfl <| E.offu rfl rfl rfl <| E.off rfl rfl rfl rfl <| E.pick rfl rfl rfl <| E.nil <| X.join0 (Sub.cons (by (first | exact leaf_f (by omega) | exact leaf_t (by omega) | exact leaf_d (by omega) | exact leaf_f (by first | (simp [*] <;> fail) | omega) | exact leaf_t (by first | (simp [*] <;> fail) | omega) | exact leaf_d (by first | (simp [*] <;> fail) | omega) | exact leaf_f (by (first | omega | ((try simp only [decide_eq_true_eq, decide_eq_false_iff_not, Bool.not_eq_true', Bool.not_eq_false'] at *); first | omega | (simp_all <;> fail) | (simp_all; omega)))) | exact leaf_t (by (first | omega | ((try simp only [decide_eq_true_eq, decide_eq_false_iff_not, Bool.not_eq_true', Bool.not_eq_false'] at *); first | omega | (simp_all <;> fail) | (simp_all; omega)))) | exact leaf_d (by (first | omega | ((try simp only [decide_eq_true_eq, decide_eq_false_iff_not, Bool.not_eq_true', Bool.not_eq_false'] at *); first | omega | (simp_all <;> fail) | (simp_all; omega)))))) <| Sub.nil _) rfl rfl
      ·
        try simp only [decide_eq_true_eq, decide_eq_false_iff_not, ne_eq, Decidable.not_not, Bool.not_eq_true', Bool.not_eq_false'] at g31
        refine E.on rfl rfl (E.mv rfl rfl ?_)
        refine E.on rfl rfl (E.mv rfl rfl ?_)
        refine E.on rfl rfl (E.idx1 (k := i) rfl rfl (hM.arg0 hr) rfl (by omega) Tryd.underlying29 (by kernel_rfl) rfl ?_)
        refine E.on rfl rfl (E.load rfl Tryd.underlying3 rfl ((hM.arg0 hr).cellA rfl (by omega)) rfl ?_)
        rw [← hte]
        refine E.on rfl rfl (E.bin rfl rfl rfl rfl ?_)
        refine E.on rfl rfl (E.mv rfl rfl ?_)
        refine E.split 37 rfl (fun g37 => ?_) (fun g37 => ?_)
        ·
          try simp only [decide_eq_true_eq, decide_eq_false_iff_not, ne_eq, Decidable.not_not, Bool.not_eq_true', Bool.not_eq_false'] at g37
          refine E.on rfl rfl (E.mv rfl rfl ?_)
          refine E.on rfl rfl (E.bin rfl rfl rfl rfl ?_)
          refine E.on rfl rfl (E.mv rfl rfl ?_)
          refine E.split 40 rfl (fun g40 => ?_) (fun g40 => ?_)
          ·
            try simp only [decide_eq_true_eq, decide_eq_false_iff_not, ne_eq, Decidable.not_not, Bool.not_eq_true', Bool.not_eq_false'] at g40
            refine E.off rfl rfl rfl rfl <| E.off rfl rfl rfl rfl <| ?_
            refine E.on rfl rfl (E.pick rfl rfl rfl ?_)
            refine E.on rfl rfl (E.mv rfl rfl ?_)
            refine E.off rfl rfl rfl rfl <| E.off rfl rfl rfl rfl <| ?_
            refine E.on rfl rfl (E.pick rfl rfl rfl ?_)
            refine E.on rfl rfl (E.mv rfl rfl ?_)
            refine E.off rfl rfl rfl rfl <| E.off rfl rfl rfl rfl <| ?_
            refine E.on rfl rfl (E.pick rfl rfl rfl ?_)
            refine E.on rfl rfl (E.pick rfl rfl rfl ?_)
            refine E.pick rfl rfl rfl <| E.nil <| X.join0 (Sub.cons (by (first | exact leaf_f (by omega) | exact leaf_t (by omega) | exact leaf_d (by omega) | exact leaf_f (by first | (simp [*] <;> fail) | omega) | exact leaf_t (by first | (simp [*] <;> fail) | omega) | exact leaf_d (by first | (simp [*] <;> fail) | omega) | exact leaf_f (by (first | omega | ((try simp only [decide_eq_true_eq, decide_eq_false_iff_not, Bool.not_eq_true', Bool.not_eq_false'] at *); first | omega | (simp_all <;> fail) | (simp_all; omega)))) | exact leaf_t (by (first | omega | ((try simp only [decide_eq_true_eq, decide_eq_false_iff_not, Bool.not_eq_true', Bool.not_eq_false'] at *); first | omega | (simp_all <;> fail) | (simp_all; omega)))) | exact leaf_d (by (first | omega | ((try simp only [decide_eq_true_eq, decide_eq_false_iff_not, Bool.not_eq_true', Bool.not_eq_false'] at *); first | omega | (simp_all <;> fail) | (simp_all; omega)))))) <| Sub.nil _) rfl rfl
          ·
            try simp only [decide_eq_true_eq, decide_eq_false_iff_not, ne_eq, Decidable.not_not, Bool.not_eq_true', Bool.not_eq_false'] at g40
            refine E.on rfl rfl (E.mv rfl rfl ?_)
            refine E.on rfl rfl (E.bin rfl rfl rfl rfl ?_)
            refine E.on rfl rfl (E.pick rfl rfl rfl ?_)
            refine E.on rfl rfl (E.mv rfl rfl ?_)
            refine E.split 44 rfl (fun g44 => ?_) (fun g44 => ?_)
            ·
              try simp only [decide_eq_true_eq, decide_eq_false_iff_not, ne_eq, Decidable.not_not, Bool.not_eq_true', Bool.not_eq_false'] at g44
              refine E.off rfl rfl rfl rfl <| E.off rfl rfl rfl rfl <| ?_
              refine E.on rfl rfl (E.pick rfl rfl rfl ?_)
              refine E.on rfl rfl (E.mv rfl rfl ?_)
              refine E.off rfl rfl rfl rfl <| E.off rfl rfl rfl rfl <| ?_
              refine E.on rfl rfl (E.pick rfl rfl rfl ?_)
              refine E.on rfl rfl (E.pick rfl rfl rfl ?_)
              refine E.pick rfl rfl rfl <| E.nil <| X.join0 (Sub.cons (by (first | exact leaf_f (by omega) | exact leaf_t (by omega) | exact leaf_d (by omega) | exact leaf_f (by first | (simp [*] <;> fail) | omega) | exact leaf_t (by first | (simp [*] <;> fail) | omega) | exact leaf_d (by first | (simp [*] <;> fail) | omega) | exact leaf_f (by (first | omega | ((try simp only [decide_eq_true_eq, decide_eq_false_iff_not, Bool.not_eq_true', Bool.not_eq_false'] at *); first | omega | (simp_all <;> fail) | (simp_all; omega)))) | exact leaf_t (by (first | omega | ((try simp only [decide_eq_true_eq, decide_eq_false_iff_not, Bool.not_eq_true', Bool.not_eq_false'] at *); first | omega | (simp_all <;> fail) | (simp_all; omega)))) | exact leaf_d (by (first | omega | ((try simp only [decide_eq_true_eq, decide_eq_false_iff_not, Bool.not_eq_true', Bool.not_eq_false'] at *); first | omega | (simp_all <;> fail) | (simp_all; omega)))))) <| Sub.nil _) rfl rfl
            ·
              try simp only [decide_eq_true_eq, decide_eq_false_iff_not, ne_eq, Decidable.not_not, Bool.not_eq_true', Bool.not_eq_false'] at g44
              refine E.on rfl rfl (E.mv rfl rfl ?_)
              refine E.on rfl rfl (E.bin rfl rfl rfl rfl ?_)
              refine E.on rfl rfl (E.pick rfl rfl rfl ?_)
              refine E.on rfl rfl (E.mv rfl rfl ?_)
              refine E.split 48 rfl (fun g48 => ?_) (fun g48 => ?_)
              ·
                try simp only [decide_eq_true_eq, decide_eq_false_iff_not, ne_eq, Decidable.not_not, Bool.not_eq_true', Bool.not_eq_false'] at g48
                refine E.off rfl rfl rfl rfl <| E.off rfl rfl rfl rfl <| ?_
                refine E.on rfl rfl (E.pick rfl rfl rfl ?_)
                refine E.on rfl rfl (E.pick rfl rfl rfl ?_)
                refine E.pick rfl rfl rfl <| E.nil <| X.join0 (Sub.cons (by (first | exact leaf_f (by omega) | exact leaf_t (by omega) | exact leaf_d (by omega) | exact leaf_f (by first | (simp [*] <;> fail) | omega) | exact leaf_t (by first | (simp [*] <;> fail) | omega) | exact leaf_d (by first | (simp [*] <;> fail) | omega) | exact leaf_f (by (first | omega | ((try simp only [decide_eq_true_eq, decide_eq_false_iff_not, Bool.not_eq_true', Bool.not_eq_false'] at *); first | omega | (simp_all <;> fail) | (simp_all; omega)))) | exact leaf_t (by (first | omega | ((try simp only [decide_eq_true_eq, decide_eq_false_iff_not, Bool.not_eq_true', Bool.not_eq_false'] at *); first | omega | (simp_all <;> fail) | (simp_all; omega)))) | exact leaf_d (by (first | omega | ((try simp only [decide_eq_true_eq, decide_eq_false_iff_not, Bool.not_eq_true', Bool.not_eq_false'] at *); first | omega | (simp_all <;> fail) | (simp_all; omega)))))) <| Sub.nil _) rfl rfl
              ·
                try simp only [decide_eq_true_eq, decide_eq_false_iff_not, ne_eq, Decidable.not_not, Bool.not_eq_true', Bool.not_eq_false'] at g48
                refine E.on rfl rfl (E.mv rfl rfl ?_)
                refine E.on rfl rfl (E.bin rfl rfl rfl rfl ?_)
                refine E.on rfl rfl (E.pick rfl rfl rfl ?_)
                refine E.on rfl rfl (E.pick rfl rfl rfl ?_)
                refine E.pick rfl rfl rfl <| E.nil <| X.join0 (Sub.cons (by (first | exact leaf_f (by omega) | exact leaf_t (by omega) | exact leaf_d (by omega) | exact leaf_f (by first | (simp [*] <;> fail) | omega) | exact leaf_t (by first | (simp [*] <;> fail) | omega) | exact leaf_d (by first | (simp [*] <;> fail) | omega) | exact leaf_f (by (first | omega | ((try simp only [decide_eq_true_eq, decide_eq_false_iff_not, Bool.not_eq_true', Bool.not_eq_false'] at *); first | omega | (simp_all <;> fail) | (simp_all; omega)))) | exact leaf_t (by (first | omega | ((try simp only [decide_eq_true_eq, decide_eq_false_iff_not, Bool.not_eq_true', Bool.not_eq_false'] at *); first | omega | (simp_all <;> fail) | (simp_all; omega)))) | exact leaf_d (by (first | omega | ((try simp only [decide_eq_true_eq, decide_eq_false_iff_not, Bool.not_eq_true', Bool.not_eq_false'] at *); first | omega | (simp_all <;> fail) | (simp_all; omega)))))) <| Sub.nil _) rfl rfl
        ·
          try simp only [decide_eq_true_eq, decide_eq_false_iff_not, ne_eq, Decidable.not_not, Bool.not_eq_true', Bool.not_eq_false'] at g37
          refine E.off rfl rfl rfl rfl <| E.off rfl rfl rfl rfl <| E.off rfl rfl rfl rfl <| E.offu rfl rfl rfl <| E.offu rfl rfl rfl <| E.off rfl rfl rfl rfl <| E.off rfl rfl rfl rfl <| E.offu rfl rfl rfl <| E.offu rfl rfl rfl <| E.off rfl rfl rfl rfl <| E.off rfl rfl rfl rfl <| E.offu rfl rfl rfl <| E.offu rfl rfl rfl <| E.off rfl rfl rfl rfl <| ?_
          refine E.on rfl rfl (E.pick rfl rfl rfl ?_)
          refine E.pick rfl rfl rfl <| E.nil <| X.join0 (Sub.cons (by (first | exact leaf_f (by omega) | exact leaf_t (by omega) | exact leaf_d (by omega) | exact leaf_f (by first | (simp [*] <;> fail) | omega) | exact leaf_t (by first | (simp [*] <;> fail) | omega) | exact leaf_d (by first | (simp [*] <;> fail) | omega) | exact leaf_f (by (first | omega | ((try simp only [decide_eq_true_eq, decide_eq_false_iff_not, Bool.not_eq_true', Bool.not_eq_false'] at *); first | omega | (simp_all <;> fail) | (simp_all; omega)))) | exact leaf_t (by (first | omega | ((try simp only [decide_eq_true_eq, decide_eq_false_iff_not, Bool.not_eq_true', Bool.not_eq_false'] at *); first | omega | (simp_all <;> fail) | (simp_all; omega)))) | exact leaf_d (by (first | omega | ((try simp only [decide_eq_true_eq, decide_eq_false_iff_not, Bool.not_eq_true', Bool.not_eq_false'] at *); first | omega | (simp_all <;> fail) | (simp_all; omega)))))) <| Sub.nil _) rfl rfl
    refine C.cond' rfl (fun hC1 => ?_) (fun hC1 => ?_)
    ·
      refine C.seq <| C.region <| E.asg rfl rfl <| E.asg rfl rfl <| E.nil <| X.next <| C.ret <| X.retT <| X.retB <| X.retT <| X.retT <| X.retB <| X.retT <| ret2 rfl rfl rfl ?_
      exact ⟨_, by rw [hE, exv_form hC1.1 hC1.2], by rw [hE, exv_form hC1.1 hC1.2]; exact (hM.nil u8 5).pick [1] (by decide)⟩
    ·
      have hcs : (0 ≤ t ∧ t ≤ 255) ∨ (255 < t ∧ ¬ (t / 65536 < 3 ∨ 258 < t / 65536 ∨ t % 65536 < 1 ∨ 32768 < t % 65536)) := by omega
      refine C.skip <| X.next <| ?_

      refine C.cut1 [(0, _), (4, _), (5, _), (7, _)] rfl (fun (n : Nat) => [(6, i64 n)]) (fun (n : Nat) w' => M w (Nn) w' [Rg.sl u8 5 vo out] ∧ ((0 ≤ t ∧ t ≤ 255 ∧ n = 1) ∨ (255 < t ∧ ¬ (t / 65536 < 3 ∨ 258 < t / 65536 ∨ t % 65536 < 1 ∨ 32768 < t % 65536) ∧ t / 65536 = (n : Int)))) ?_ ?_
      ·
        refine C.seq <| C.region <| E.mv rfl rfl <| E.mv rfl rfl <| ?_
        refine E.get (k := i) rfl rfl (hM.arg0 hr) rfl (by omega) Tryd.underlying29 (by kernel_rfl) Tryd.underlying3 rfl rfl rfl ?_
        rw [← hte]
        refine E.bin rfl rfl rfl rfl <| E.nil <| X.next <| ?_
        refine C.cond' rfl (fun hC2 => ?_) (fun hC2 => ?_)
        ·

          refine C.region <| E.asg rfl rfl <| E.nil <| X.join1 1 (Sub.cons rfl <| Sub.nil _) rfl ⟨hM, by omega⟩
        ·

          refine C.skip <| X.join1 (t / 65536).toNat (Sub.cons (look_val rfl (by omega)) <| Sub.nil _) rfl ⟨hM, by omega⟩
      rintro n w1 ⟨hM, hn⟩
      refine C.seq <| ?_

      refine C.chainE [(0, _), (4, _), (5, _), (6, _), (7, _)] rfl [(69, .bool (decide (255 < t ∧ (out.length : Int) < t % 65536)))] ?_ ?_
      ·
        refine C.region <| E.mv rfl rfl <| E.mv rfl rfl <| ?_
        refine E.get (k := i) rfl rfl (hM.arg0 hr) rfl (by omega) Tryd.underlying29 (by kernel_rfl) Tryd.underlying3 rfl rfl rfl ?_
        rw [← hte]
        refine E.bin rfl rfl rfl rfl <| E.mv rfl rfl <| ?_
        refine E.split 64 rfl (fun g64 => ?_) (fun g64 => ?_)
        ·
          try simp only [decide_eq_true_eq, decide_eq_false_iff_not, ne_eq, Decidable.not_not, Bool.not_eq_true', Bool.not_eq_false'] at g64
          refine E.on rfl rfl (E.mv rfl rfl ?_)
          refine E.on rfl rfl (E.mv rfl rfl ?_)
          refine E.on rfl rfl (E.lenv rfl (Rd.shape (hM.sl 0 rfl)) Tryd.underlying22 rfl ?_)
          refine E.on rfl rfl (E.bin rfl rfl rfl rfl ?_)
          refine E.pick rfl rfl rfl <| E.nil <| X.join0 (Sub.cons (by (first | exact leaf_f (by omega) | exact leaf_t (by omega) | exact leaf_d (by omega) | exact leaf_f (by first | (simp [*] <;> fail) | omega) | exact leaf_t (by first | (simp [*] <;> fail) | omega) | exact leaf_d (by first | (simp [*] <;> fail) | omega) | exact leaf_f (by (first | omega | ((try simp only [decide_eq_true_eq, decide_eq_false_iff_not, Bool.not_eq_true', Bool.not_eq_false'] at *); first | omega | (simp_all <;> fail) | (simp_all; omega)))) | exact leaf_t (by (first | omega | ((try simp only [decide_eq_true_eq, decide_eq_false_iff_not, Bool.not_eq_true', Bool.not_eq_false'] at *); first | omega | (simp_all <;> fail) | (simp_all; omega)))) | exact leaf_d (by (first | omega | ((try simp only [decide_eq_true_eq, decide_eq_false_iff_not, Bool.not_eq_true', Bool.not_eq_false'] at *); first | omega | (simp_all <;> fail) | (simp_all; omega)))))) <| Sub.nil _) rfl rfl
        ·
          try simp only [decide_eq_true_eq, decide_eq_false_iff_not, ne_eq, Decidable.not_not, Bool.not_eq_true', Bool.not_eq_false'] at g64
          refine E.off rfl rfl rfl rfl <| E.off rfl rfl rfl rfl <| E.off rfl rfl rfl rfl <| E.off rfl rfl rfl rfl <| E.pick rfl rfl rfl <| E.nil <| X.join0 (Sub.cons (by (first | exact leaf_f (by omega) | exact leaf_t (by omega) | exact leaf_d (by omega) | exact leaf_f (by first | (simp [*] <;> fail) | omega) | exact leaf_t (by first | (simp [*] <;> fail) | omega) | exact leaf_d (by first | (simp [*] <;> fail) | omega) | exact leaf_f (by (first | omega | ((try simp only [decide_eq_true_eq, decide_eq_false_iff_not, Bool.not_eq_true', Bool.not_eq_false'] at *); first | omega | (simp_all <;> fail) | (simp_all; omega)))) | exact leaf_t (by (first | omega | ((try simp only [decide_eq_true_eq, decide_eq_false_iff_not, Bool.not_eq_true', Bool.not_eq_false'] at *); first | omega | (simp_all <;> fail) | (simp_all; omega)))) | exact leaf_d (by (first | omega | ((try simp only [decide_eq_true_eq, decide_eq_false_iff_not, Bool.not_eq_true', Bool.not_eq_false'] at *); first | omega | (simp_all <;> fail) | (simp_all; omega)))))) <| Sub.nil _) rfl rfl
      refine C.cond' rfl (fun hC3 => ?_) (fun hC3 => ?_)
      ·
        have hf : ¬ (t / 65536 < 3 ∨ 258 < t / 65536 ∨ t % 65536 < 1 ∨ 32768 < t % 65536) := by omega
        refine C.seq <| C.region <| E.asg rfl rfl <| E.asg rfl rfl <| E.nil <| X.next <| C.ret <| X.retT <| X.retB <| X.retT <| X.retT <| X.retB <| X.retT <| ret2 rfl rfl rfl ?_
        exact ⟨_, by rw [hE, exv_dist (by omega) hf hC3.2], by rw [hE, exv_dist (by omega) hf hC3.2]; exact (hM.nil u8 5).pick [1] (by decide)⟩
      ·
        refine C.skip <| X.next <| C.seq <| C.seq <| C.region <| E.mv rfl rfl <| ?_
        refine E.lenv rfl (Rd.shape (hM.sl 0 rfl)) Tryd.underlying22 rfl ?_
        refine E.mv rfl rfl <| ?_
        refine E.addN (a := out.length) (b := n) rfl rfl (by omega) rfl ?_
        refine E.bin rfl rfl rfl rfl <| E.nil <| X.next <| ?_
        refine C.cond' rfl (fun hC4 => ?_) (fun hC4 => ?_)
        ·
          have hL : Df.exv out (t :: zs.drop (i + 1)) = ([], 4) := by
            rcases hn with ⟨h1, h2, h3⟩ | ⟨h1, h2, h3⟩
            · rw [exv_lit ⟨h1, h2⟩, if_pos (by omega)]
            · rw [exv_mat (by omega) h2 (by omega), if_pos (by omega)]
          refine C.seq <| C.region <| E.asg rfl rfl <| E.asg rfl rfl <| E.nil <| X.next <| C.ret <| X.retT <| X.retB <| X.retT <| X.retT <| X.retB <| X.retT <| ret2 rfl rfl rfl ?_
          exact ⟨_, by rw [hE, hL], by rw [hE, hL]; exact (hM.nil u8 5).pick [1] (by decide)⟩
        ·
          obtain ⟨d, hd⟩ : ∃ d : Nat, 255 < t → qd = (d : Int) := ⟨qd.toNat, fun h => by omega⟩
          have hE2 : Df.exv [] zs = Df.exv (rxt t d out n) (zs.drop (i + 1)) := by
            rw [hE]
            rcases hn with ⟨h1, h2, h3⟩ | ⟨h1, h2, h3⟩
            · rw [exv_lit ⟨h1, h2⟩, if_neg (by omega), rxt, if_pos h2, h3]; rfl
            · rw [exv_mat (by omega) h2 (by omega), if_neg (by omega), rxt, if_neg (by omega), show (t % 65536).toNat = d by omega, show (t / 65536).toNat = n by omega]
          refine C.skip <| X.next <| C.seq <| C.region <| E.asg rfl rfl <| E.nil <| X.next <| C.block <| ?_

          refine C.loop2 [(0, _), (5, _), (6, _), (7, _)] rfl (fun (k : Nat) (vq : Value) => [(4, vq), (8, i64 k)]) (fun (k : Nat) (vq : Value) w' => M w (Nn) w' [Rg.sl u8 5 vq (rxt t d out k)] ∧ k ≤ n) (fun (k : Nat) (vq : Value) => n - k) 0 vo ?_ ?_ ?_
          · exact Sub.cons rfl <| Sub.cons rfl <| Sub.nil _
          · exact ⟨hM.to (by rw [rxt_zero]), Nat.zero_le _⟩
          rintro k vq w2 ⟨hM, hk⟩
          refine C.seq <| C.seq <| C.region <| E.mv rfl rfl <| E.mv rfl rfl <| E.bin rfl rfl rfl rfl <| E.nil <| X.next <| ?_
          refine C.cond' rfl (fun hC5 => ?_) (fun hC5 => ?_)
          ·
            have hrl := rxt_len t d out k
            refine C.skip <| X.next <| C.seq <| C.block <| C.seq <| C.region <| E.mv rfl rfl <| E.mv rfl rfl <| ?_
            refine E.get (k := i) rfl rfl (hM.arg0 hr) rfl (by omega) Tryd.underlying29 (by kernel_rfl) Tryd.underlying3 rfl rfl rfl ?_
            rw [← hte]
            refine E.conv rfl Tryd.underlying3 Tryd.underlying5 (c := IntKind.u8.wrap t) rfl rfl ?_
            refine E.asg rfl rfl <| E.nil <| X.next <| ?_

            refine C.cut1 [(0, _), (4, _), (5, _), (6, _), (7, _), (8, _)] rfl (fun (c : UInt8) => [(9, u8 c)]) (fun (c : UInt8) w' => M w (Nn) w' [Rg.sl u8 5 vq (rxt t d out k)] ∧ rxt t d out (k + 1) = rxt t d out k ++ [c]) ?_ ?_
            ·
              refine C.seq <| C.region <| E.mv rfl rfl <| E.mv rfl rfl <| ?_
              refine E.get (k := i) rfl rfl (hM.arg0 hr) rfl (by omega) Tryd.underlying29 (by kernel_rfl) Tryd.underlying3 rfl rfl rfl ?_
              rw [← hte]
              refine E.bin rfl rfl rfl rfl <| E.nil <| X.next <| ?_
              refine C.cond' rfl (fun hC6 => ?_) (fun hC6 => ?_)
              ·
                have hqd' := hd (by omega)
                have hdl : d ≤ out.length := by omega
                have hd1 : 1 ≤ d := by omega
                rw [hqd']
                refine C.region <| E.mv rfl rfl <| E.mv rfl rfl <| ?_
                refine E.lenv rfl (Rd.shape (hM.sl 0 rfl)) Tryd.underlying22 rfl ?_
                rw [hrl]
                refine E.mv rfl rfl <| ?_
                refine E.subN (a := out.length + k) (b := d) rfl rfl (by omega) rfl ?_
                refine E.get (k := out.length + k - d) rfl rfl (hM.sl 0 rfl) rfl (by omega) Tryd.underlying22 (by kernel_rfl) Tryd.underlying5 rfl rfl rfl ?_

                refine E.asg rfl rfl <| E.nil <| X.join1 ((rxt t d out k).getD (out.length + k - d) 0) (Sub.cons (look_eq rfl (by rw [gdU (by omega)])) <| Sub.nil _) rfl ⟨hM, by rw [rxt_mat (by omega), hrl]⟩
              ·

                refine C.skip <| X.join1 (UInt8.ofNat t.toNat) (Sub.cons (look_eq rfl (by rw [ofNat_u8 (by omega), IntWalk.u8_in _ (by omega)]; congr 1; omega)) <| Sub.nil _) rfl ⟨hM, rxt_lit (by omega)⟩
            rintro c w3 ⟨hM, hc⟩
            refine C.region <| E.mv rfl rfl <| E.mv rfl rfl <| ?_
            refine E.pushM (enc := u8) 0 c hM rfl rfl rfl Tryd.underlying22 elem_Tuint8 rfl (by omega) (by omega) (by simp) rfl rfl ?_
            intro v100 u100 w4 hM
            try dsimp only [List.nil_append, List.cons_append, List.set_cons_zero, List.set_cons_succ, repl] at hM
            refine E.asg rfl rfl <| E.nil <| X.outN <| X.next <| C.region <| E.mv rfl rfl <| ?_
            refine E.addN (a := k) (b := 1) rfl rfl (by omega) rfl ?_

            refine E.asg rfl rfl <| E.nil <| X.again2 (k + 1) v100 (Sub.cons rfl <| Sub.cons rfl <| Sub.nil _) rfl ⟨hM.to (by rw [hc]), by omega⟩ (by omega)
          ·
            obtain rfl : k = n := by omega
            refine C.exit <| X.exitT <| X.exitT <| X.outE <| X.outN <| X.next <| C.region <| E.mv rfl rfl <| ?_
            refine E.addN (a := i) (b := 1) rfl rfl (by omega) rfl ?_

            refine E.asg rfl rfl <| E.nil <| X.again3 (i + 1) (rxt t d out k) vq (Sub.cons rfl <| Sub.cons rfl <| Sub.nil _) rfl ⟨hM, by omega, by rw [rxt_len]; omega, hE2⟩ (by omega)
  ·
    obtain rfl : i = zs.length := by omega
    rw [List.drop_length, exv_nil] at hE
    refine C.exit <| X.exitT <| X.exitT <| X.outE <| X.next <| C.seq <| C.region <| E.mv rfl rfl <| E.asg rfl rfl <| E.asg rfl rfl <| E.nil <| X.next <| C.ret <| ret2 rfl rfl rfl ?_
    exact ⟨_, by rw [hE], by rw [hE]; exact hM⟩

end Go.Proofs.YtcmgbjmcklfkcaaDoor
