/- prefix: the reference's Cost; Ints; the symbols in order. -/
import Derived.Test.YtdcgmkoonanpgaaPf2
namespace Go.Proofs.Ytdcgmkoonanpgaa
set_option linter.unusedSimpArgs false
set_option linter.unusedVariables false
open Go.RowKit Sym

theorem Sym.M.to {w0 w : World} {S : Nat → Prop} {rs rs' : List Rg} (h : M w0 S w rs) (e : rs = rs') : M w0 S w rs' := e ▸ h
theorem Sym.E.idxN {P : Program} {ops : Array Oper} {Q : Exit → Act → World → Prop} {s : St} {env : Env} {w : World} {rest : List Oper} {ty : TypeId} {pos : String} {aft : Array Edge} {d : Nat} {t e : TypeId} {x ix : Operand} {kk : IntKind} {i n b : Nat} (hx : ev env x = some (.pointer (some ⟨b, 0, none⟩))) (hi : ev env ix = some (.int kk (i : Int)))
    (ht : P.underlying t = some (.array n e)) (hs : (P.info? e).map (·.size) = some 1) (h1 : i < n) (hd : Nat.blt d s.n = true)
    (h : wpE P ops Q s rest ((d, .pointer (some ⟨b, i, none⟩)) :: env) w) : wpE P ops Q s (⟨some d, .indexAddr t x ix, ty, pos, aft, none⟩ :: rest) env w :=
  E.idxA (sz := 1) hx hi ht hs (by omega) (by omega) hd (by rw [show 0 + ((i : Int)).toNat * 1 = i by omega]; exact h)
theorem Sym.S.idxN {P : Program} {ops : Array Oper} {Lq : Act → Prop} {s : St} {env : Env} {w : World} {rest : List Oper} {ty : TypeId} {pos : String} {aft : Array Edge} {d : Nat} {t e : TypeId} {x ix : Operand} {kk : IntKind} {i n b : Nat} (hx : ev env x = some (.pointer (some ⟨b, 0, none⟩))) (hi : ev env ix = some (.int kk (i : Int)))
    (ht : P.underlying t = some (.array n e)) (hs : (P.info? e).map (·.size) = some 1) (h1 : i < n) (hd : Nat.blt d s.n = true)
    (h : wpS P ops Lq s rest ((d, .pointer (some ⟨b, i, none⟩)) :: env) w) : wpS P ops Lq s (⟨some d, .indexAddr t x ix, ty, pos, aft, none⟩ :: rest) env w :=
  S.idxA (sz := 1) hx hi ht hs (by omega) (by omega) hd (by rw [show 0 + ((i : Int)).toNat * 1 = i by omega]; exact h)
set_option maxHeartbeats 1000000 in
theorem rCost_ret (p q : Value) (a b : List Int) (w : World) (ha : RdL i64 w p a) (hb : RdL i64 w q b) :
    Ret Try.prog 39 #[p, q] w fun v w' => v = .tuple #[i64 (csv a b).1, i64 (csv a b).2] ∧ Ext w w' := by
  have hM := M.start w
  refine enter Try.func39 rfl (by kernel_rfl) Try.ntmps39 rfl ?_
  refine C.seq <| C.region <| E.asg rfl rfl <| E.asg rfl rfl <| E.nil <| X.next <| C.seq <| ?_

  refine C.chainE [(0, _), (1, _)] rfl [(15, .bool (decide (4096 < a.length ∨ 4096 < b.length)))] ?_ ?_
  ·
    refine C.region <| E.mv rfl rfl <| ?_
    refine E.lenv rfl (Rd.shape (hM.arg0 ha)) Try.underlying67 rfl ?_
    refine E.bin rfl rfl rfl rfl <| E.mv rfl rfl <| ?_
    refine E.split 11 rfl (fun g11 => ?_) (fun g11 => ?_)
    ·
      try simp only [decide_eq_true_eq, decide_eq_false_iff_not, ne_eq, Decidable.not_not, Bool.not_eq_true', Bool.not_eq_false'] at g11
      refine E.off rfl rfl rfl rfl <| E.off rfl rfl rfl rfl <| E.off rfl rfl rfl rfl <| E.pick rfl rfl rfl <| E.nil <| X.join0 (Sub.cons (by (first | exact leaf_f (by omega) | exact leaf_t (by omega) | exact leaf_d (by omega) | exact leaf_f (by first | (simp [*] <;> fail) | omega) | exact leaf_t (by first | (simp [*] <;> fail) | omega) | exact leaf_d (by first | (simp [*] <;> fail) | omega) | exact leaf_f (by (first | omega | ((try simp only [decide_eq_true_eq, decide_eq_false_iff_not, Bool.not_eq_true', Bool.not_eq_false'] at *); first | omega | (simp_all <;> fail) | (simp_all; omega)))) | exact leaf_t (by (first | omega | ((try simp only [decide_eq_true_eq, decide_eq_false_iff_not, Bool.not_eq_true', Bool.not_eq_false'] at *); first | omega | (simp_all <;> fail) | (simp_all; omega)))) | exact leaf_d (by (first | omega | ((try simp only [decide_eq_true_eq, decide_eq_false_iff_not, Bool.not_eq_true', Bool.not_eq_false'] at *); first | omega | (simp_all <;> fail) | (simp_all; omega)))))) <| Sub.nil _) rfl rfl
    ·
      try simp only [decide_eq_true_eq, decide_eq_false_iff_not, ne_eq, Decidable.not_not, Bool.not_eq_true', Bool.not_eq_false'] at g11
      refine E.on rfl rfl (E.mv rfl rfl ?_)
      refine E.on rfl rfl (E.lenv rfl (Rd.shape (hM.arg0 hb)) Try.underlying67 rfl ?_)
      refine E.on rfl rfl (E.bin rfl rfl rfl rfl ?_)
      refine E.pick rfl rfl rfl <| E.nil <| X.join0 (Sub.cons (by (first | exact leaf_f (by omega) | exact leaf_t (by omega) | exact leaf_d (by omega) | exact leaf_f (by first | (simp [*] <;> fail) | omega) | exact leaf_t (by first | (simp [*] <;> fail) | omega) | exact leaf_d (by first | (simp [*] <;> fail) | omega) | exact leaf_f (by (first | omega | ((try simp only [decide_eq_true_eq, decide_eq_false_iff_not, Bool.not_eq_true', Bool.not_eq_false'] at *); first | omega | (simp_all <;> fail) | (simp_all; omega)))) | exact leaf_t (by (first | omega | ((try simp only [decide_eq_true_eq, decide_eq_false_iff_not, Bool.not_eq_true', Bool.not_eq_false'] at *); first | omega | (simp_all <;> fail) | (simp_all; omega)))) | exact leaf_d (by (first | omega | ((try simp only [decide_eq_true_eq, decide_eq_false_iff_not, Bool.not_eq_true', Bool.not_eq_false'] at *); first | omega | (simp_all <;> fail) | (simp_all; omega)))))) <| Sub.nil _) rfl rfl
  refine C.cond' rfl (fun hC0 => ?_) (fun hC0 => ?_)
  ·
    refine C.seq <| C.region <| E.asg rfl rfl <| E.asg rfl rfl <| E.nil <| X.next <| C.ret <| X.retT <| ret2 rfl rfl rfl ?_
    exact ⟨by rw [csv, if_pos hC0], hM.toExt⟩
  ·
    have hl1 : ¬ 4096 < a.length := by omega
    have hl2 : ¬ 4096 < b.length := by omega
    refine C.skip <| X.next <| C.seq <| ?_

    refine C.cut0 [(0, _), (1, _)] rfl [(23, .bool (decide (¬ (okr a 1099511627776 = true ∧ okr b 30 = true))))] (fun w' => M w (Nn) w' []) ?_ ?_
    ·
      refine C.region <| E.mv rfl rfl <| ?_
      refine E.call rfl rfl (right_ret p a 1099511627776 _ (hM.arg0 ha)) ?_
      rintro _ w1 ⟨rfl, x1⟩
      have hM := hM.ext x1
      try dsimp only [List.nil_append, List.cons_append, List.set_cons_zero, List.set_cons_succ, repl] at hM
      refine E.bin rfl rfl rfl rfl <| E.mv rfl rfl <| ?_
      refine E.split 19 rfl (fun g19 => ?_) (fun g19 => ?_)
      ·
        try simp only [decide_eq_true_eq, decide_eq_false_iff_not, ne_eq, Decidable.not_not, Bool.not_eq_true', Bool.not_eq_false'] at g19
        have ho : okr a 1099511627776 = false := by cases h : okr a 1099511627776; rfl; rw [h] at g19; exact (g19 rfl).elim

        refine E.off rfl rfl rfl rfl <| E.off rfl rfl rfl rfl <| E.off rfl rfl rfl rfl <| E.pick rfl rfl rfl <| E.nil <| X.join0  (Sub.cons (look_eq rfl (by rw [ho]; simp)) <| Sub.nil _) rfl hM
      ·
        try simp only [decide_eq_true_eq, decide_eq_false_iff_not, ne_eq, Decidable.not_not, Bool.not_eq_true', Bool.not_eq_false'] at g19
        have ho : okr a 1099511627776 = true := by cases h : okr a 1099511627776; rw [h] at g19; exact absurd g19 (by decide); rfl
        refine E.on rfl rfl (E.mv rfl rfl ?_)
        refine E.on rfl rfl (E.call rfl rfl (right_ret q b 30 _ (hM.arg0 hb)) ?_)
        rintro _ w2 ⟨rfl, x2⟩
        have hM := hM.ext x2
        try dsimp only [List.nil_append, List.cons_append, List.set_cons_zero, List.set_cons_succ, repl] at hM
        refine E.on rfl rfl (E.bin rfl rfl rfl rfl ?_)

        refine E.pick rfl rfl rfl <| E.nil <| X.join0  (Sub.cons (look_eq rfl (by rw [ho]; cases okr b 30 <;> simp)) <| Sub.nil _) rfl hM
    rintro  w2 hM
    refine C.cond' rfl (fun hC1 => ?_) (fun hC1 => ?_)
    ·
      refine C.seq <| C.region <| E.asg rfl rfl <| E.asg rfl rfl <| E.nil <| X.next <| C.ret <| X.retT <| ret2 rfl rfl rfl ?_
      exact ⟨by rw [csv, if_neg hC0, if_pos hC1], hM.toExt⟩
    ·
      obtain ⟨ho1, ho2⟩ := Decidable.not_not.1 hC1
      refine C.skip <| X.next <| C.seq <| C.seq <| C.region <| E.mv rfl rfl <| ?_
      refine E.lenv rfl (Rd.shape (hM.arg0 ha)) Try.underlying67 rfl ?_
      refine E.mv rfl rfl <| ?_
      refine E.lenv rfl (Rd.shape (hM.arg0 hb)) Try.underlying67 rfl ?_
      refine E.bin rfl rfl rfl rfl <| E.nil <| X.next <| ?_
      refine C.cond' rfl (fun hC2 => ?_) (fun hC2 => ?_)
      ·
        refine C.seq <| C.region <| E.asg rfl rfl <| E.asg rfl rfl <| E.nil <| X.next <| C.ret <| X.retT <| ret2 rfl rfl rfl ?_
        exact ⟨by rw [csv, if_neg hC0, if_neg hC1, if_pos (by omega)], hM.toExt⟩
      ·
        have hll : a.length = b.length := by omega
        refine C.skip <| X.next <| C.seq <| C.region <| E.asg rfl rfl <| E.nil <| X.next <| C.seq <| C.seq <| C.region <| E.asg rfl rfl <| E.nil <| X.next <| C.block <| ?_

        refine C.loop1 [(0, _), (1, _)] rfl (fun (i : Nat) => [(6, i64 (dot (a.take i) (b.take i))), (7, i64 i)]) (fun (i : Nat) w' => M w (Nn) w' [] ∧ i ≤ a.length) (fun (i : Nat) => a.length - i) 0 ?_ ?_ ?_
        · exact Sub.cons rfl <| Sub.cons rfl <| Sub.nil _
        · exact ⟨hM, Nat.zero_le _⟩
        rintro i w3 ⟨hM, hi⟩
        refine C.seq <| C.seq <| C.region <| E.mv rfl rfl <| E.mv rfl rfl <| ?_
        refine E.lenv rfl (Rd.shape (hM.arg0 ha)) Try.underlying67 rfl ?_
        refine E.bin rfl rfl rfl rfl <| E.nil <| X.next <| ?_
        refine C.cond' rfl (fun hC3 => ?_) (fun hC3 => ?_)
        ·
          have hi' : i < a.length := by omega
          have hdb := dot_bound ho1 ho2 hll i hi
          have hmb := mul_bound (okr_iff.1 ho1 a[i] (List.getElem_mem _)) (okr_iff.1 ho2 b[i] (List.getElem_mem _))
          refine C.skip <| X.next <| C.seq <| C.block <| C.drawn (by kernel_rfl) (by kernel_rfl) <| Q.mv rfl rfl <| Q.mv rfl rfl <| Q.mv rfl rfl <| ?_
          refine Q.idx1 (k := i) rfl rfl (hM.arg0 ha) rfl (by omega) Try.underlying67 (by kernel_rfl) rfl ?_
          refine Q.load rfl Try.underlying3 rfl ((hM.arg0 ha).cell (by omega)) rfl ?_
          refine Q.mv rfl rfl <| Q.mv rfl rfl <| ?_
          refine Q.idx1 (k := i) rfl rfl (hM.arg0 hb) rfl (by omega) Try.underlying67 (by kernel_rfl) rfl ?_
          refine Q.load rfl Try.underlying3 rfl ((hM.arg0 hb).cell (by omega)) rfl ?_
          refine Q.mul rfl rfl (by omega) rfl ?_
          refine Q.add rfl rfl (by omega) rfl ?_
          refine Q.asg rfl rfl <| Q.nil <| fun w4 hx4 => ?_
          have hM := hM.ext hx4
          refine X.outN <| X.next <| C.region <| E.mv rfl rfl <| ?_
          refine E.add rfl rfl (by omega) rfl ?_

          refine E.asg rfl rfl <| E.nil <| X.again1 (i + 1) (Sub.cons (look_val rfl (by rw [dot_snoc hi' (by omega)])) <| Sub.cons rfl <| Sub.nil _) rfl ⟨hM, by omega⟩ (by omega)
        ·
          obtain rfl : i = a.length := by omega
          rw [List.take_length, hll, List.take_length]
          refine C.exit <| X.exitT <| X.exitT <| X.outE <| X.next <| C.seq <| C.region <| E.mv rfl rfl <| E.asg rfl rfl <| E.asg rfl rfl <| E.nil <| X.next <| C.ret <| ret2 rfl rfl rfl ?_
          exact ⟨by rw [csv, if_neg hC0, if_neg hC1, if_neg (by omega)], hM.toExt⟩

theorem Ints_ret (p q : Value) (a b : List Int) (w : World) (ha : RdL i64 w p a) (hb : RdL i64 w q b) :
    Ret Try.prog 35 #[p, q] w fun v w' => v = .bool (decide (a = b)) ∧ Ext w w' := by
  have hM := M.start w
  refine enter Try.func35 rfl (by kernel_rfl) Try.ntmps35 rfl ?_
  refine C.seq <| C.region <| E.asg rfl rfl <| E.nil <| X.next <| C.seq <| C.seq <| C.region <| E.mv rfl rfl <| ?_
  refine E.lenv rfl (Rd.shape (hM.arg0 ha)) Try.underlying67 rfl ?_
  refine E.mv rfl rfl <| ?_
  refine E.lenv rfl (Rd.shape (hM.arg0 hb)) Try.underlying67 rfl ?_
  refine E.bin rfl rfl rfl rfl <| E.nil <| X.next <| ?_
  refine C.cond' rfl (fun hC0 => ?_) (fun hC0 => ?_)
  ·
    refine C.seq <| C.region <| E.asg rfl rfl <| E.nil <| X.next <| C.ret <| X.retT <| ret1 rfl rfl ?_
    exact ⟨by rw [decide_eq_false]; intro e; subst e; exact hC0 rfl, hM.toExt⟩
  ·
    have hll : a.length = b.length := by omega
    have hle := Rd.le ha
    refine C.skip <| X.next <| C.seq <| C.seq <| C.region <| E.asg rfl rfl <| E.nil <| X.next <| C.block <| ?_

    refine C.loop1 [(0, _), (1, _)] rfl (fun (i : Nat) => [(5, i64 i)]) (fun (i : Nat) w' => M w (Nn) w' [] ∧ i ≤ a.length ∧ a.take i = b.take i) (fun (i : Nat) => a.length - i) 0 ?_ ?_ ?_
    · exact Sub.cons rfl <| Sub.nil _
    · exact ⟨hM, Nat.zero_le _, rfl⟩
    rintro i w0 ⟨hM, hi, ht⟩
    refine C.seq <| C.seq <| C.region <| E.mv rfl rfl <| E.mv rfl rfl <| ?_
    refine E.lenv rfl (Rd.shape (hM.arg0 ha)) Try.underlying67 rfl ?_
    refine E.bin rfl rfl rfl rfl <| E.nil <| X.next <| ?_
    refine C.cond' rfl (fun hC1 => ?_) (fun hC1 => ?_)
    ·
      have hi' : i < a.length := by omega
      refine C.skip <| X.next <| C.seq <| C.block <| C.seq <| C.drawn (by kernel_rfl) (by kernel_rfl) <| Q.mv rfl rfl <| Q.mv rfl rfl <| ?_
      refine Q.idx1 (k := i) rfl rfl (hM.arg0 ha) rfl (by omega) Try.underlying67 (by kernel_rfl) rfl ?_
      refine Q.load rfl Try.underlying3 rfl ((hM.arg0 ha).cell (by omega)) rfl ?_
      refine Q.mv rfl rfl <| Q.mv rfl rfl <| ?_
      refine Q.idx1 (k := i) rfl rfl (hM.arg0 hb) rfl (by omega) Try.underlying67 (by kernel_rfl) rfl ?_
      refine Q.load rfl Try.underlying3 rfl ((hM.arg0 hb).cell (by omega)) rfl ?_
      refine Q.bin rfl rfl rfl rfl <| Q.nil <| fun w1 hx1 => ?_
      have hM := hM.ext hx1
      refine X.next <| ?_
      refine C.cond' rfl (fun hC2 => ?_) (fun hC2 => ?_)
      ·
        refine C.seq <| C.region <| E.asg rfl rfl <| E.nil <| X.next <| C.ret <| X.retB <| X.retT <| X.retT <| X.retB <| X.retT <| ret1 rfl rfl ?_
        exact ⟨by rw [decide_eq_false]; intro e; subst e; exact hC2 rfl, hM.toExt⟩
      ·
        refine C.skip <| X.outN <| X.next <| C.region <| E.mv rfl rfl <| ?_
        refine E.add rfl rfl (by omega) rfl ?_

        refine E.asg rfl rfl <| E.nil <| X.again1 (i + 1) (Sub.cons rfl <| Sub.nil _) rfl ⟨hM, by omega, by rw [← List.take_append_getElem hi', ← List.take_append_getElem (show i < b.length by omega), ht, Decidable.not_not.1 hC2]⟩ (by omega)
    ·
      obtain rfl : i = a.length := by omega
      have hee := ht
      rw [List.take_length, hll, List.take_length] at hee
      refine C.exit <| X.exitT <| X.exitT <| X.outE <| X.next <| C.seq <| C.region <| E.asg rfl rfl <| E.nil <| X.next <| C.ret <| ret1 rfl rfl ?_
      exact ⟨by rw [decide_eq_true]; exact hee, hM.toExt⟩

end Go.Proofs.Ytdcgmkoonanpgaa
