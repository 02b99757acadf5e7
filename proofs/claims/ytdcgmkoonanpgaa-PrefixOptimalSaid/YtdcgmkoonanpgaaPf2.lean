/- prefix: Cost; the symbols in order. -/
import Derived.Test.YtdcgmkoonanpgaaPf1
namespace Go.Proofs.Ytdcgmkoonanpgaa
set_option linter.unusedSimpArgs false
set_option linter.unusedVariables false
open Go.RowKit Sym

/-! arrays of numbers -/
theorem Sym.Ar_ex : ∃ f : Nat → TypeId → Nat → (Nat → Int) → Rg, ∀ b T N g, f b T N g = Rg.blk b T ((tab N g).map i64) := ⟨_, fun _ _ _ _ => rfl⟩
noncomputable def Sym.Ar : Nat → TypeId → Nat → (Nat → Int) → Rg := Classical.choose Sym.Ar_ex
theorem Sym.Ar_eq (b : Nat) (T : TypeId) (N : Nat) (g : Nat → Int) : Sym.Ar b T N g = Rg.blk b T ((tab N g).map i64) := Classical.choose_spec Sym.Ar_ex b T N g
def Sym.upd (g : Nat → Int) (k : Nat) (x : Int) : Nat → Int := fun j => if j = k then x else g j
theorem Sym.Ar_congr {b : Nat} {T : TypeId} {N : Nat} {g h : Nat → Int} (e : ∀ k, k < N → g k = h k) : Sym.Ar b T N g = Sym.Ar b T N h := by rw [Sym.Ar_eq, Sym.Ar_eq, tab_congr e]
theorem Sym.M.arr {w0 w : World} {S : Nat → Prop} {rs : List Rg} {b N k : Nat} {T : TypeId} {g : Nat → Int} (h : M w0 S w rs) (i : Nat) (hi : rs[i]? = some (Sym.Ar b T N g)) (hk : k < N) : w.cell? ⟨b, k, none⟩ = some (i64 (g k)) :=
  h.bcell i (by rw [hi, Sym.Ar_eq]) (by rw [List.getElem?_map, tab_get hk]; rfl)
theorem Sym.tab_upd {N k : Nat} {g : Nat → Int} {x : Int} (hk : k < N) : ((tab N g).map i64).set k (i64 x) = (tab N (Sym.upd g k x)).map i64 := by
  apply List.ext_getElem?
  intro j
  by_cases hj : j < N
  · rw [List.getElem?_map, tab_get hj]
    by_cases e : k = j
    · subst e; rw [List.getElem?_set_self (by simp [tab_len]; exact hk)]; simp [Sym.upd]
    · rw [List.getElem?_set_ne e, List.getElem?_map, tab_get hj]; simp only [Option.map_some, Sym.upd, if_neg (fun h : j = k => e h.symm)]
  · rw [List.getElem?_eq_none (by simp [tab_len]; omega), List.getElem?_eq_none (by simp [tab_len]; omega)]
theorem Sym.E.storeAr {P : Program} {ops : Array Oper} {Q : Exit → Act → World → Prop} {s : St} {env : Env} {w0 w : World} {S : Nat → Prop} {rs : List Rg} {rest : List Oper} {ty : TypeId} {pos : String} {aft : Array Edge} {t T : TypeId} {x y : Operand} {b N k : Nat} {g : Nat → Int} (i : Nat) (z : Int) (hM : M w0 S w rs) (hi : rs[i]? = some (Sym.Ar b T N g)) (hx : ev env x = some (.pointer (some ⟨b, k, none⟩))) (hy : ev env y = some (i64 z)) (hs : (P.info? t).map (·.size) = some 1) (hk : k < N)
    (h : ∀ w', M w0 S w' (rs.set i (Sym.Ar b T N (Sym.upd g k z))) → wpE P ops Q s rest env w') : wpE P ops Q s (⟨none, .store t x y, ty, pos, aft, none⟩ :: rest) env w :=
  E.storeM i hM (by rw [hi, Sym.Ar_eq]) hx hy hs rfl (old := i64 (g k)) (by rw [List.getElem?_map, tab_get hk]; rfl) fun w' hM' => h w' (by rw [tab_upd hk, ← Sym.Ar_eq] at hM'; exact hM')
/-! Cost -/
def dot (a b : List Int) : Int := (List.zipWith (· * ·) a b).sum
theorem dot_snoc {a b : List Int} {i : Nat} (ha : i < a.length) (hb : i < b.length) : dot (a.take (i + 1)) (b.take (i + 1)) = dot (a.take i) (b.take i) + a[i] * b[i] := by
  unfold dot
  rw [← List.take_append_getElem ha, ← List.take_append_getElem hb, List.zipWith_append (by rw [List.length_take, List.length_take]; omega)]
  simp
theorem mul_bound {a b : Int} (ha : 0 ≤ a ∧ a ≤ 1099511627776) (hb : 0 ≤ b ∧ b ≤ 30) : 0 ≤ a * b ∧ a * b ≤ 32985348833280 := by
  refine ⟨Int.mul_nonneg ha.1 hb.1, ?_⟩
  have := Int.mul_le_mul ha.2 hb.2 hb.1 (by omega)
  omega
theorem dot_bound {a b : List Int} (ha : okr a 1099511627776 = true) (hb : okr b 30 = true) (hl : a.length = b.length) : ∀ i, i ≤ a.length → 0 ≤ dot (a.take i) (b.take i) ∧ dot (a.take i) (b.take i) ≤ 32985348833280 * (i : Int) := by
  intro i
  induction i with
  | zero => intro _; simp [dot]
  | succ i ih =>
    intro hi
    have h1 := ih (by omega)
    rw [dot_snoc (by omega) (by omega)]
    have := mul_bound (okr_iff.1 ha a[i] (List.getElem_mem _)) (okr_iff.1 hb b[i] (List.getElem_mem _))
    omega
/-- what Cost answers -/
def csv (a b : List Int) : Int × Int :=
  if 4096 < a.length ∨ 4096 < b.length then (0, 4) else if ¬ (okr a 1099511627776 = true ∧ okr b 30 = true) then (0, 3) else if a.length ≠ b.length then (0, 7) else (dot a b, 0)
set_option maxHeartbeats 1000000 in
theorem Cost_ret (p q : Value) (a b : List Int) (w : World) (ha : RdL i64 w p a) (hb : RdL i64 w q b) :
    Ret Try.prog 38 #[p, q] w fun v w' => v = .tuple #[i64 (csv a b).1, i64 (csv a b).2] ∧ Ext w w' := by
  have hM := M.start w
  refine enter Try.func38 rfl (by kernel_rfl) Try.ntmps38 rfl ?_
  refine C.seq <| C.region <| E.asg rfl rfl <| E.asg rfl rfl <| E.nil <| X.next <| C.seq <| ?_

  refine C.chainE [(0, _), (1, _)] rfl [(16, .bool (decide (4096 < a.length ∨ 4096 < b.length)))] ?_ ?_
  ·
    refine C.region <| E.mv rfl rfl <| ?_
    refine E.lenv rfl (Rd.shape (hM.arg0 ha)) Try.underlying67 rfl ?_
    refine E.bin rfl rfl rfl rfl <| E.mv rfl rfl <| ?_
    refine E.split 12 rfl (fun g12 => ?_) (fun g12 => ?_)
    ·
      try simp only [decide_eq_true_eq, decide_eq_false_iff_not, ne_eq, Decidable.not_not, Bool.not_eq_true', Bool.not_eq_false'] at g12
      refine E.off rfl rfl rfl rfl <| E.off rfl rfl rfl rfl <| E.off rfl rfl rfl rfl <| E.pick rfl rfl rfl <| E.nil <| X.join0 (Sub.cons (by (first | exact leaf_f (by omega) | exact leaf_t (by omega) | exact leaf_d (by omega) | exact leaf_f (by first | (simp [*] <;> fail) | omega) | exact leaf_t (by first | (simp [*] <;> fail) | omega) | exact leaf_d (by first | (simp [*] <;> fail) | omega) | exact leaf_f (by (first | omega | ((try simp only [decide_eq_true_eq, decide_eq_false_iff_not, Bool.not_eq_true', Bool.not_eq_false'] at *); first | omega | (simp_all <;> fail) | (simp_all; omega)))) | exact leaf_t (by (first | omega | ((try simp only [decide_eq_true_eq, decide_eq_false_iff_not, Bool.not_eq_true', Bool.not_eq_false'] at *); first | omega | (simp_all <;> fail) | (simp_all; omega)))) | exact leaf_d (by (first | omega | ((try simp only [decide_eq_true_eq, decide_eq_false_iff_not, Bool.not_eq_true', Bool.not_eq_false'] at *); first | omega | (simp_all <;> fail) | (simp_all; omega)))))) <| Sub.nil _) rfl rfl
    ·
      try simp only [decide_eq_true_eq, decide_eq_false_iff_not, ne_eq, Decidable.not_not, Bool.not_eq_true', Bool.not_eq_false'] at g12
      refine E.on rfl rfl (E.mv rfl rfl ?_)
      refine E.on rfl rfl (E.lenv rfl (Rd.shape (hM.arg0 hb)) Try.underlying67 rfl ?_)
      refine E.on rfl rfl (E.bin rfl rfl rfl rfl ?_)
      refine E.pick rfl rfl rfl <| E.nil <| X.join0 (Sub.cons (by (first | exact leaf_f (by omega) | exact leaf_t (by omega) | exact leaf_d (by omega) | exact leaf_f (by first | (simp [*] <;> fail) | omega) | exact leaf_t (by first | (simp [*] <;> fail) | omega) | exact leaf_d (by first | (simp [*] <;> fail) | omega) | exact leaf_f (by (first | omega | ((try simp only [decide_eq_true_eq, decide_eq_false_iff_not, Bool.not_eq_true', Bool.not_eq_false'] at *); first | omega | (simp_all <;> fail) | (simp_all; omega)))) | exact leaf_t (by (first | omega | ((try simp only [decide_eq_true_eq, decide_eq_false_iff_not, Bool.not_eq_true', Bool.not_eq_false'] at *); first | omega | (simp_all <;> fail) | (simp_all; omega)))) | exact leaf_d (by (first | omega | ((try simp only [decide_eq_true_eq, decide_eq_false_iff_not, Bool.not_eq_true', Bool.not_eq_false'] at *); first | omega | (simp_all <;> fail) | (simp_all; omega)))))) <| Sub.nil _) rfl rfl
  refine C.cond' rfl (fun hC0 => ?_) (fun hC0 => ?_)
  ·
    refine C.seq <| C.region <| E.asg rfl rfl <| E.asg rfl rfl <| E.nil <| X.next <| C.ret <| X.retT <| ret2 rfl rfl rfl ?_
    exact ⟨by rw [csv, if_pos hC0], hM.toExt⟩
  ·
    have hl1 : ¬ 4096 < a.length := by omega
    have hl2 : ¬ 4096 < b.length := by omega
    refine C.skip <| X.next <| C.seq <| ?_

    refine C.cut0 [(0, _), (1, _)] rfl [(24, .bool (decide (¬ (okr a 1099511627776 = true ∧ okr b 30 = true))))] (fun w' => M w (Nn) w' []) ?_ ?_
    ·
      refine C.region <| E.mv rfl rfl <| ?_
      refine E.call rfl rfl (within_ret p a 1099511627776 _ (hM.arg0 ha)) ?_
      rintro _ w1 ⟨rfl, x1⟩
      have hM := hM.ext x1
      try dsimp only [List.nil_append, List.cons_append, List.set_cons_zero, List.set_cons_succ, repl] at hM
      rw [if_neg hl1]
      refine E.bin rfl rfl rfl rfl <| E.mv rfl rfl <| ?_
      refine E.split 20 rfl (fun g20 => ?_) (fun g20 => ?_)
      ·
        try simp only [decide_eq_true_eq, decide_eq_false_iff_not, ne_eq, Decidable.not_not, Bool.not_eq_true', Bool.not_eq_false'] at g20
        have ho : okr a 1099511627776 = false := by cases h : okr a 1099511627776; rfl; rw [h] at g20; exact (g20 rfl).elim

        refine E.off rfl rfl rfl rfl <| E.off rfl rfl rfl rfl <| E.off rfl rfl rfl rfl <| E.pick rfl rfl rfl <| E.nil <| X.join0  (Sub.cons (look_eq rfl (by rw [ho]; simp)) <| Sub.nil _) rfl hM
      ·
        try simp only [decide_eq_true_eq, decide_eq_false_iff_not, ne_eq, Decidable.not_not, Bool.not_eq_true', Bool.not_eq_false'] at g20
        have ho : okr a 1099511627776 = true := by cases h : okr a 1099511627776; rw [h] at g20; exact absurd g20 (by decide); rfl
        refine E.on rfl rfl (E.mv rfl rfl ?_)
        refine E.on rfl rfl (E.call rfl rfl (within_ret q b 30 _ (hM.arg0 hb)) ?_)
        rintro _ w2 ⟨rfl, x2⟩
        have hM := hM.ext x2
        try dsimp only [List.nil_append, List.cons_append, List.set_cons_zero, List.set_cons_succ, repl] at hM
        rw [if_neg hl2]
        refine E.on rfl rfl (E.bin rfl rfl rfl rfl ?_)

        refine E.pick rfl rfl rfl <| E.nil <| X.join0  (Sub.cons (look_eq rfl (by rw [ho]; cases okr b 30 <;> simp)) <| Sub.nil _) rfl hM
    rintro  w2 hM
    refine C.cond' rfl (fun hC1 => ?_) (fun hC1 => ?_)
    ·
      refine C.seq <| C.region <| E.asg rfl rfl <| E.asg rfl rfl <| E.nil <| X.next <| C.ret <| X.retT <| ret2 rfl rfl rfl ?_
      exact ⟨by rw [csv, if_neg hC0, if_pos hC1], hM.toExt⟩
    ·
      obtain ⟨ho1, ho2⟩ := Decidable.not_not.1 hC1
      refine C.skip <| X.next <| C.seq <| C.seq <| C.region <| E.mv rfl rfl <| ?_
      refine E.lenv rfl (Rd.shape (hM.arg0 ha)) Try.underlying67 rfl ?_
      refine E.mv rfl rfl <| ?_
      refine E.lenv rfl (Rd.shape (hM.arg0 hb)) Try.underlying67 rfl ?_
      refine E.bin rfl rfl rfl rfl <| E.nil <| X.next <| ?_
      refine C.cond' rfl (fun hC2 => ?_) (fun hC2 => ?_)
      ·
        refine C.seq <| C.region <| E.asg rfl rfl <| E.asg rfl rfl <| E.nil <| X.next <| C.ret <| X.retT <| ret2 rfl rfl rfl ?_
        exact ⟨by rw [csv, if_neg hC0, if_neg hC1, if_pos (by omega)], hM.toExt⟩
      ·
        have hll : a.length = b.length := by omega
        refine C.skip <| X.next <| C.seq <| C.region <| E.asg rfl rfl <| E.nil <| X.next <| C.seq <| C.seq <| C.region <| E.mv rfl rfl <| ?_
        refine E.lenv rfl (Rd.shape (hM.arg0 ha)) Try.underlying67 rfl ?_
        refine E.mv rfl rfl <| E.nil <| X.next <| C.block <| ?_

        refine C.loop1 [(1, _), (30, _), (31, _)] rfl (fun (i : Nat) => [(6, i64 (dot (a.take i) (b.take i))), (32, i64 i)]) (fun (i : Nat) w' => M w (Nn) w' [] ∧ i ≤ a.length) (fun (i : Nat) => a.length - i) 0 ?_ ?_ ?_
        · exact Sub.cons rfl <| Sub.cons rfl <| Sub.nil _
        · exact ⟨hM, Nat.zero_le _⟩
        rintro i w3 ⟨hM, hi⟩
        refine C.seq <| C.region <| E.bin rfl rfl rfl rfl <| E.nil <| X.next <| C.seq <| ?_
        refine C.cond' rfl (fun hC3 => ?_) (fun hC3 => ?_)
        ·
          have hi' : i < a.length := by omega
          have hdb := dot_bound ho1 ho2 hll i hi
          have hmb := mul_bound (okr_iff.1 ho1 a[i] (List.getElem_mem _)) (okr_iff.1 ho2 b[i] (List.getElem_mem _))
          refine C.skip <| X.next <| C.seq <| C.block <| C.seq <| C.region <| E.mv rfl rfl <| ?_
          refine E.get (k := i) rfl rfl (hM.arg0 ha) rfl (by omega) Try.underlying67 (by kernel_rfl) Try.underlying3 rfl rfl rfl ?_
          refine E.asg rfl rfl <| E.asg rfl rfl <| E.nil <| X.next <| C.region <| E.mv rfl rfl <| E.mv rfl rfl <| E.mv rfl rfl <| E.mv rfl rfl <| ?_
          refine E.get (k := i) rfl rfl (hM.arg0 hb) rfl (by omega) Try.underlying67 (by kernel_rfl) Try.underlying3 rfl rfl rfl ?_
          refine E.mul rfl rfl (by omega) rfl ?_
          refine E.add rfl rfl (by omega) rfl ?_
          refine E.asg rfl rfl <| E.nil <| X.outN <| X.next <| C.region <| ?_
          refine E.add rfl rfl (by omega) rfl ?_

          refine E.mv rfl rfl <| E.nil <| X.again1 (i + 1) (Sub.cons (look_val rfl (by rw [dot_snoc hi' (by omega)])) <| Sub.cons rfl <| Sub.nil _) rfl ⟨hM, by omega⟩ (by omega)
        ·
          obtain rfl : i = a.length := by omega
          rw [List.take_length, hll, List.take_length]
          refine C.exit <| X.exitT <| X.exitT <| X.outE <| X.next <| C.seq <| C.region <| E.mv rfl rfl <| E.asg rfl rfl <| E.asg rfl rfl <| E.nil <| X.next <| C.ret <| ret2 rfl rfl rfl ?_
          exact ⟨by rw [csv, if_neg hC0, if_neg hC1, if_neg (by omega)], hM.toExt⟩

end Go.Proofs.Ytdcgmkoonanpgaa
