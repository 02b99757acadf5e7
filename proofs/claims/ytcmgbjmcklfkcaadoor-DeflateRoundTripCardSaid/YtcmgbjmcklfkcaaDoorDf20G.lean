/- copy; slices.Repeat of one number. -/
import Derived.Laws.IdiomCopy
import Derived.Test.YtcmgbjmcklfkcaaDoorDf19G
namespace Go.Proofs.YtcmgbjmcklfkcaaDoor
set_option linter.unusedSimpArgs false
set_option linter.unusedVariables false
open Go.RowKit Sym

namespace Sym
/-- cs laid over l from place k on -/
def ovr {α : Type} (l : List α) (k : Nat) : List α → List α
  | [] => l
  | c :: cs => ovr (l.set k c) (k + 1) cs
theorem setCells_M {α : Type} {enc : α → Value} {w0 : World} {S : Nat → Prop} {e : TypeId} {v : Value} (i : Nat) : ∀ (cs : List α) (k : Nat) (l : List α) (w : World) (rs : List Rg), M w0 S w rs → rs[i]? = some (Rg.sl enc e v l) → k + cs.length ≤ l.length → M w0 S (w.setCells (bs v).1 ((bs v).2 + k) (cs.map enc)) (rs.set i (Rg.sl enc e v (ovr l k cs)))
  | [], k, l, w, rs, hM, hi, _ => by
    have : rs.set i (Rg.sl enc e v l) = rs := by
      obtain ⟨h, e⟩ := List.getElem?_eq_some_iff.1 hi
      rw [← e]; exact List.set_getElem_self h
    rw [ovr, this]; exact hM
  | c :: cs, k, l, w, rs, hM, hi, hk => by
    rw [List.length_cons] at hk
    have h1 := hM.setL i hi (show k < l.length by omega) c
    have h2 := setCells_M i cs (k + 1) (l.set k c) _ _ h1 (by rw [List.getElem?_set_self (List.getElem?_eq_some_iff.1 hi).1]) (by rw [List.length_set]; omega)
    rw [List.set_set] at h2
    exact h2
theorem Rd.hd {α : Type} {enc : α → Value} {w : World} {v : Value} {l : List α} (h : RdL enc w v l) (h0 : 0 < l.length) : ∃ cap, v = .slice (some (el v 0)) l.length cap := by
  obtain ⟨a, cap, rfl, h2, h3, h4, h5, h6⟩ := h
  obtain ⟨b, o, rfl⟩ := h5 (by rw [h4]; omega)
  exact ⟨cap, rfl⟩
theorem partV_hd {α : Type} {enc : α → Value} {w : World} {v : Value} {l : List α} (h : RdL enc w v l) {k : Nat} (h0 : k < l.length) : ∃ cap, partV v k l.length = .slice (some (el v k)) (l.length - k) cap := by
  obtain ⟨a, cap, rfl, h2, h3, h4, h5, h6⟩ := h
  obtain ⟨b, o, rfl⟩ := h5 (by rw [h4]; omega)
  refine ⟨cap - k, ?_⟩
  unfold partV
  simp only
  rw [if_neg (by omega)]
  simp [el, bs, addr_add]
section
variable {P : Program} {ops : Array Oper} {Q : Exit → Act → World → Prop} {s : St} {env : Env} {w w0 : World} {S : Nat → Prop} {rs : List Rg} {rest : List Oper} {d : Nat} {ty : TypeId} {pos : String} {aft : Array Edge}
/-- copy(x, y) where x is a part of a slice of the call's own, from place k on -/
theorem E.copyM {α : Type} {enc : α → Value} {t t2 e : TypeId} {x y : Operand} {v dv sv : Value} {l m : List α} (i k : Nat) (hM : M w0 S w rs) (hi : rs[i]? = some (Rg.sl enc e v l)) (hx : ev env x = some dv) (hy : ev env y = some sv) (hdv : ∃ cap, dv = .slice (some (el v k)) (l.length - k) cap) (hR : RdL enc w sv m) (h0 : 0 < m.length) (hk : k ≤ l.length) (ht : P.underlying t = some (.slice e)) (hs : (P.info? e).map (·.size) = some 1) (h1 : ∀ a, (enc a).oneCell' = true) (hd : Nat.blt d s.n = true)
    (h : ∀ w', M w0 S w' (rs.set i (Rg.sl enc e v (ovr l k (m.take (l.length - k))))) → wpE P ops Q s rest ((d, i64 ((min m.length (l.length - k) : Nat) : Int)) :: env) w') : wpE P ops Q s (⟨some d, .call ⟨.builtin .copy, #[x, y], #[t, t2]⟩, ty, pos, aft, none⟩ :: rest) env w := by
  obtain ⟨cap, rfl⟩ := hdv
  have hcl : (m.take (l.length - k)).length = min m.length (l.length - k) := by rw [List.length_take, Nat.min_comm]
  have hml : ((m.take (l.length - k)).map enc).length = Nat.min m.length (l.length - k) := by rw [List.length_map, hcl]
  have hmk : ∀ j, j < ((m.take (l.length - k)).map enc).length → k + j < l.length := fun j hj => by rw [List.length_map, hcl] at hj; omega
  have hr := fun j (hj : j < m.length) => RdL.cell hR hj
  obtain ⟨a, scap, hsv, h2, h3, h4, h5, h6⟩ := hR
  obtain ⟨b, o, rfl⟩ := h5 (by rw [h4]; omega)
  have hM' := setCells_M i (m.take (l.length - k)) k l w rs hM hi
  have hrun := run_copy_cells (P := P) w t t2 ty e (bs v).1 ((bs v).2 + k) (l.length - k) cap ⟨b, o, none⟩ m.length scap ((m.take (l.length - k)).map enc) ht hs hml
      (fun j u hu => by
        rw [List.getElem?_map] at hu
        obtain ⟨z, hz, rfl⟩ := Option.map_eq_some_iff.1 hu
        obtain ⟨hj, hz⟩ := List.getElem?_eq_some_iff.1 hz
        have hj2 : j < m.length := by rw [hcl] at hj; omega
        have := hr j hj2
        rw [hsv] at this
        rw [List.getElem_take] at hz
        rw [hz] at this
        rw [addr_add]; exact this)
      (fun j hj => by
        have hc := ((hM.own i hi).cellAt (hmk j hj)).1
        unfold el at hc
        rw [← Nat.add_assoc] at hc; rw [hc]; rfl)
      (fun j hj => by
        have hc := ((hM.own i hi).cellAt (hmk j hj)).2.1
        unfold el at hc
        rw [← Nat.add_assoc] at hc; exact hc)
      (fun u hu => by obtain ⟨z, _, rfl⟩ := List.mem_map.1 hu; exact h1 z)
  refine E.op (fun a ha => ?_) hd (h _ (hM' (by rw [hcl]; omega)))
  rw [List.length_map, hcl] at hrun
  simp [execOp, resolve, invoke, builtin, ha.ev hx, ha.ev hy, hsv, el]
  rw [hrun, List.map_take]; rfl
end
theorem ovr_rep {α : Type} (x z : α) (n : Nat) : ∀ (j k : Nat), k + j ≤ n → ovr (List.replicate k x ++ List.replicate (n - k) z) k (List.replicate j x) = List.replicate (k + j) x ++ List.replicate (n - (k + j)) z
  | 0, k, _ => rfl
  | j + 1, k, h => by
    have h1 : (List.replicate k x ++ List.replicate (n - k) z).set k x = List.replicate (k + 1) x ++ List.replicate (n - (k + 1)) z := by
      rw [List.set_append_right _ _ (by simp), List.length_replicate, Nat.sub_self, show n - k = (n - (k + 1)) + 1 by omega, List.replicate_succ, List.set_cons_zero, List.replicate_succ', List.append_assoc]; rfl
    rw [List.replicate_succ, ovr, h1, ovr_rep x z n j (k + 1) (by omega), show k + 1 + j = k + (j + 1) by omega]
end Sym
theorem u64_and {n : Nat} (h : n ≤ 4294967295) : bits .and .u64 (n : Int) 4294967295 = (n : Int) := by
  show IntKind.u64.wrap (((BitVec.ofInt 64 (n : Int)) &&& (BitVec.ofInt 64 4294967295)).toNat : Int) = _
  have e : (BitVec.ofInt 64 4294967295).toNat = 4294967295 := rfl
  rw [BitVec.toNat_and, e, Nat.and_two_pow_sub_one_eq_mod _ 32, BitVec.toNat_ofInt]
  have h4 : ((2 ^ 64 : Nat) : Int) = 18446744073709551616 := by decide
  rw [h4]
  have h3 : (((n : Int) % 18446744073709551616).toNat % 4294967296 : Int) = (n : Int) := by omega
  rw [IntWalk.u64_in _ (by omega)]; omega
theorem u64_shr {n : Nat} (h : n ≤ 4294967295) : (n : Int) / 2 ^ min (32 : Int).toNat IntKind.u64.bits = 0 := by
  have e1 : min (32 : Int).toNat IntKind.u64.bits = 32 := rfl
  rw [e1, show (2 : Int) ^ 32 = 4294967296 from rfl]; omega
abbrev LI := List Int
/-- math/bits.Mul64: ['uint64', 'uint64'] -> ['uint64', 'uint64']; results in ['Go.ResultVar.tmp 4', 'Go.ResultVar.tmp 5'] -/
theorem Mul64_ret (n : Nat) (w : World) (hn : n ≤ 4294967295) :
    Ret Tryd.prog 105 #[.int .u64 ((1 : Nat) : Int), .int .u64 ((n : Nat) : Int)] w fun v w' => v = .tuple #[.int .u64 0, .int .u64 ((n : Nat) : Int)] ∧ Ext w w' := by
  have hM := M.start w
  refine enter Tryd.func105 rfl (by kernel_rfl) Tryd.ntmps105 rfl ?_
  refine C.seq <| C.region <| E.asg rfl rfl <| E.asg rfl rfl <| E.nil <| X.next <| C.seq <| C.region <| E.mv rfl rfl <| ?_
  refine E.binw rfl rfl rfl (congrArg _ (u64_and (n := 1) (by omega))) rfl ?_
  refine E.asg rfl rfl <| E.nil <| X.next <| C.seq <| C.region <| E.mv rfl rfl <| ?_
  refine E.shr rfl rfl (by decide) (u64_shr (n := 1) (by omega)) rfl ?_
  refine E.asg rfl rfl <| E.nil <| X.next <| C.seq <| C.region <| E.mv rfl rfl <| ?_
  refine E.binw rfl rfl rfl (congrArg _ (u64_and (n := n) (by omega))) rfl ?_
  refine E.asg rfl rfl <| E.nil <| X.next <| C.seq <| C.region <| E.mv rfl rfl <| ?_
  refine E.shr rfl rfl (by decide) (u64_shr (n := n) (by omega)) rfl ?_
  refine E.asg rfl rfl <| E.nil <| X.next <| C.seq <| C.region <| E.mv rfl rfl <| E.mv rfl rfl <| ?_
  refine E.binw rfl rfl rfl (congrArg _ (show _ = ((n : Nat) : Int) by first | exact (IntWalk.u64_in _ (by omega)).trans (by omega) | rfl)) rfl ?_
  refine E.asg rfl rfl <| E.nil <| X.next <| C.seq <| C.region <| E.mv rfl rfl <| E.mv rfl rfl <| ?_
  refine E.binw rfl rfl rfl (congrArg _ (show _ = ((0 : Nat) : Int) by first | exact (IntWalk.u64_in _ (by omega)).trans (by omega) | rfl)) rfl ?_
  refine E.mv rfl rfl <| ?_
  refine E.shr rfl rfl (by decide) (u64_shr (n := n) (by omega)) rfl ?_
  refine E.binw rfl rfl rfl (congrArg _ (show _ = ((0 : Nat) : Int) by first | exact (IntWalk.u64_in _ (by omega)).trans (by omega) | rfl)) rfl ?_
  refine E.asg rfl rfl <| E.nil <| X.next <| C.seq <| C.region <| E.mv rfl rfl <| ?_
  refine E.binw rfl rfl rfl (congrArg _ (u64_and (n := 0) (by omega))) rfl ?_
  refine E.asg rfl rfl <| E.nil <| X.next <| C.seq <| C.region <| E.mv rfl rfl <| ?_
  refine E.shr rfl rfl (by decide) (u64_shr (n := 0) (by omega)) rfl ?_
  refine E.asg rfl rfl <| E.nil <| X.next <| C.seq <| C.region <| E.mv rfl rfl <| E.mv rfl rfl <| E.mv rfl rfl <| ?_
  refine E.binw rfl rfl rfl (congrArg _ (show _ = ((0 : Nat) : Int) by first | exact (IntWalk.u64_in _ (by omega)).trans (by omega) | rfl)) rfl ?_
  refine E.binw rfl rfl rfl (congrArg _ (show _ = ((0 : Nat) : Int) by first | exact (IntWalk.u64_in _ (by omega)).trans (by omega) | rfl)) rfl ?_
  refine E.asg rfl rfl <| E.nil <| X.next <| C.seq <| C.region <| E.mv rfl rfl <| E.mv rfl rfl <| ?_
  refine E.binw rfl rfl rfl (congrArg _ (show _ = ((0 : Nat) : Int) by first | exact (IntWalk.u64_in _ (by omega)).trans (by omega) | rfl)) rfl ?_
  refine E.mv rfl rfl <| ?_
  refine E.binw rfl rfl rfl (congrArg _ (show _ = ((0 : Nat) : Int) by first | exact (IntWalk.u64_in _ (by omega)).trans (by omega) | rfl)) rfl ?_
  refine E.mv rfl rfl <| ?_
  refine E.shr rfl rfl (by decide) (u64_shr (n := 0) (by omega)) rfl ?_
  refine E.binw rfl rfl rfl (congrArg _ (show _ = ((0 : Nat) : Int) by first | exact (IntWalk.u64_in _ (by omega)).trans (by omega) | rfl)) rfl ?_
  refine E.asg rfl rfl <| E.nil <| X.next <| C.seq <| C.region <| E.mv rfl rfl <| E.mv rfl rfl <| ?_
  refine E.binw rfl rfl rfl (congrArg _ (show _ = ((n : Nat) : Int) by first | exact (IntWalk.u64_in _ (by omega)).trans (by omega) | rfl)) rfl ?_
  refine E.asg rfl rfl <| E.nil <| X.next <| C.ret <| ret2 rfl rfl rfl ?_
  exact ⟨rfl, hM.toExt⟩

/-- math/bits.Mul: ['uint', 'uint'] -> ['uint', 'uint']; results in ['Go.ResultVar.tmp 4', 'Go.ResultVar.tmp 5'] -/
theorem Mul_ret (n : Nat) (w : World) (hn : n ≤ 4294967295) :
    Ret Tryd.prog 102 #[.int .u64 ((1 : Nat) : Int), .int .u64 ((n : Nat) : Int)] w fun v w' => v = .tuple #[.int .u64 0, .int .u64 ((n : Nat) : Int)] ∧ Ext w w' := by
  have hM := M.start w
  refine enter Tryd.func102 rfl (by kernel_rfl) Tryd.ntmps102 rfl ?_
  refine C.seq <| C.region <| E.asg rfl rfl <| E.asg rfl rfl <| E.nil <| X.next <| C.seq <| ?_
  refine C.cond' (p := False) rfl (fun hC0 => ?_) (fun hC0 => ?_)
  ·
    exact hC0.elim
  ·
    refine C.skip <| X.next <| C.seq <| C.region <| E.mv rfl rfl <| E.mv rfl rfl <| ?_
    refine E.call rfl rfl (Mul64_ret n _ hn) ?_
    rintro _ w1 ⟨rfl, x1⟩
    have hM := hM.ext x1
    try dsimp only [List.nil_append, List.cons_append, List.set_cons_zero, List.set_cons_succ, repl] at hM
    refine E.mv rfl rfl <| E.ext rfl rfl rfl <| E.ext rfl rfl rfl <| E.asg rfl rfl <| E.asg rfl rfl <| E.nil <| X.next <| C.seq <| C.region <| E.mv rfl rfl <| E.mv rfl rfl <| E.asg rfl rfl <| E.asg rfl rfl <| E.nil <| X.next <| C.ret <| ret2 rfl rfl rfl ?_
    exact ⟨rfl, hM.toExt⟩

theorem Repeat_ret (p : Value) (x : Int) (n : Nat) (w : World) (hp : RdL i64 w p [x]) (hn : 1 ≤ n) (hn2 : n ≤ 100000) :
    Ret Tryd.prog 98 #[p, i64 n] w fun v w' => M w Nn w' [Rg.sl i64 3 v (List.replicate n x)] := by
  have hM := M.start w
  refine enter Tryd.func98 rfl (by kernel_rfl) Tryd.ntmps98 rfl ?_
  refine C.seq <| C.region <| E.asg rfl rfl <| E.nil <| X.next <| ?_

  refine C.cut0 [(0, _), (1, _)] rfl [] (fun w' => M w (Nn) w' []) ?_ ?_
  ·
    refine C.seq <| C.region <| E.mv rfl rfl <| E.bin rfl rfl rfl rfl <| E.nil <| X.next <| ?_
    refine C.cond' rfl (fun hC0 => ?_) (fun hC0 => ?_)
    ·
      omega
    ·

      refine C.skip <| X.join0  (Sub.nil _) rfl hM
  rintro  w0 hM
  refine C.seq <| C.region <| E.mv rfl rfl <| ?_
  refine E.lenv rfl (Rd.shape (hM.arg0 hp)) Tryd.underlying29 rfl ?_
  refine E.conv rfl Tryd.underlying3 Tryd.underlying67 (show _ = ((1 : Nat) : Int) from rfl) rfl ?_
  refine E.mv rfl rfl <| ?_
  refine E.conv rfl Tryd.underlying3 Tryd.underlying67 (IntWalk.u64_in _ (by omega)) rfl ?_
  refine E.call rfl rfl (Mul_ret n _ (by omega)) ?_
  rintro _ w1 ⟨rfl, x1⟩
  have hM := hM.ext x1
  try dsimp only [List.nil_append, List.cons_append, List.set_cons_zero, List.set_cons_succ, repl] at hM
  refine E.mv rfl rfl <| E.ext rfl rfl rfl <| E.ext rfl rfl rfl <| E.asg rfl rfl <| E.asg rfl rfl <| E.nil <| X.next <| ?_

  refine C.cut0 [(0, _), (6, _)] rfl [] (fun w' => M w (Nn) w' []) ?_ ?_
  ·

    refine C.chainE [(0, _), (6, _)] rfl [(26, .bool (decide ((0 : Int) > 0 ∨ (n : Int) > 9223372036854775807)))] ?_ ?_
    ·
      refine C.region <| E.mv rfl rfl <| E.bin rfl rfl rfl rfl <| E.mv rfl rfl <| ?_
      refine E.split 23 rfl (fun g23 => ?_) (fun g23 => ?_)
      ·
        try simp only [decide_eq_true_eq, decide_eq_false_iff_not, ne_eq, Decidable.not_not, Bool.not_eq_true', Bool.not_eq_false'] at g23
        refine E.off rfl rfl rfl rfl <| E.off rfl rfl rfl rfl <| E.pick rfl rfl rfl <| E.nil <| X.join0 (Sub.cons (by (first | exact leaf_f (by omega) | exact leaf_t (by omega) | exact leaf_d (by omega) | exact leaf_f (by first | (simp [*] <;> fail) | omega) | exact leaf_t (by first | (simp [*] <;> fail) | omega) | exact leaf_d (by first | (simp [*] <;> fail) | omega) | exact leaf_f (by (first | omega | ((try simp only [decide_eq_true_eq, decide_eq_false_iff_not, Bool.not_eq_true', Bool.not_eq_false'] at *); first | omega | (simp_all <;> fail) | (simp_all; omega)))) | exact leaf_t (by (first | omega | ((try simp only [decide_eq_true_eq, decide_eq_false_iff_not, Bool.not_eq_true', Bool.not_eq_false'] at *); first | omega | (simp_all <;> fail) | (simp_all; omega)))) | exact leaf_d (by (first | omega | ((try simp only [decide_eq_true_eq, decide_eq_false_iff_not, Bool.not_eq_true', Bool.not_eq_false'] at *); first | omega | (simp_all <;> fail) | (simp_all; omega)))))) <| Sub.nil _) rfl rfl
      ·
        try simp only [decide_eq_true_eq, decide_eq_false_iff_not, ne_eq, Decidable.not_not, Bool.not_eq_true', Bool.not_eq_false'] at g23
        refine E.on rfl rfl (E.mv rfl rfl ?_)
        refine E.on rfl rfl (E.bin rfl rfl rfl rfl ?_)
        refine E.pick rfl rfl rfl <| E.nil <| X.join0 (Sub.cons (by (first | exact leaf_f (by omega) | exact leaf_t (by omega) | exact leaf_d (by omega) | exact leaf_f (by first | (simp [*] <;> fail) | omega) | exact leaf_t (by first | (simp [*] <;> fail) | omega) | exact leaf_d (by first | (simp [*] <;> fail) | omega) | exact leaf_f (by (first | omega | ((try simp only [decide_eq_true_eq, decide_eq_false_iff_not, Bool.not_eq_true', Bool.not_eq_false'] at *); first | omega | (simp_all <;> fail) | (simp_all; omega)))) | exact leaf_t (by (first | omega | ((try simp only [decide_eq_true_eq, decide_eq_false_iff_not, Bool.not_eq_true', Bool.not_eq_false'] at *); first | omega | (simp_all <;> fail) | (simp_all; omega)))) | exact leaf_d (by (first | omega | ((try simp only [decide_eq_true_eq, decide_eq_false_iff_not, Bool.not_eq_true', Bool.not_eq_false'] at *); first | omega | (simp_all <;> fail) | (simp_all; omega)))))) <| Sub.nil _) rfl rfl
    refine C.cond' rfl (fun hC1 => ?_) (fun hC1 => ?_)
    ·
      omega
    ·

      refine C.skip <| X.join0  (Sub.nil _) rfl hM
  rintro  w2 hM
  refine C.seq <| C.region <| E.mv rfl rfl <| ?_
  refine E.conv rfl Tryd.underlying67 Tryd.underlying3 (IntWalk.i64_in _ (by omega)) rfl ?_
  refine E.makeM (by_ := 8) (enc := i64) (0 : Int) hM rfl Tryd.underlying29 (by kernel_rfl) rfl (by omega) (by omega) rfl ?_
  intro v30 w3 hM
  try dsimp only [List.nil_append, List.cons_append, List.set_cons_zero, List.set_cons_succ, repl] at hM
  refine E.asg rfl rfl <| E.nil <| X.next <| C.seq <| C.region <| E.mv rfl rfl <| E.mv rfl rfl <| ?_
  refine E.copyM (l := List.replicate n 0) 0 0 hM rfl rfl rfl (Rd.hd (hM.sl 0 rfl) (by rw [List.length_replicate]; omega)) (hM.arg0 hp) (by simp) (Nat.zero_le _) Tryd.underlying29 (by kernel_rfl) (fun _ => rfl) rfl fun w3 hM => ?_
  have hv1 : ovr (List.replicate n 0) 0 (List.take ((List.replicate n (0 : Int)).length - 0) [x]) = List.replicate 1 x ++ List.replicate (n - 1) 0 := by
    rw [List.take_of_length_le (by simp; omega)]; exact ovr_rep x 0 n 1 0 (by omega)
  rw [hv1] at hM
  have hm1 : min [x].length ((List.replicate n (0 : Int)).length - 0) = 1 := by rw [List.length_replicate, List.length_singleton]; omega
  rw [hm1]
  refine E.asg rfl rfl <| E.nil <| X.next <| C.seq <| C.block <| ?_

  refine C.loop1 [(7, _)] rfl (fun (k : Nat) => [(8, i64 k)]) (fun (k : Nat) w' => M w (Nn) w' [Rg.sl i64 3 v30 (List.replicate (k) x ++ List.replicate (n - (k)) 0)] ∧ 1 ≤ k ∧ k ≤ n) (fun (k : Nat) => n - k) 1 ?_ ?_ ?_
  · exact Sub.cons rfl <| Sub.nil _
  · exact ⟨hM, Nat.le_refl _, hn⟩
  rintro k w4 ⟨hM, hk1, hk2⟩
  refine C.seq <| C.seq <| C.region <| E.mv rfl rfl <| E.mv rfl rfl <| ?_
  have hX : (List.replicate k x ++ List.replicate (n - k) 0).length = n := by simp; omega
  refine E.lenv rfl (Rd.shape (hM.sl 0 rfl)) Tryd.underlying29 rfl ?_
  rw [hX]
  refine E.bin rfl rfl rfl rfl <| E.nil <| X.next <| ?_
  refine C.cond' rfl (fun hC2 => ?_) (fun hC2 => ?_)
  ·
    refine C.skip <| X.next <| C.block <| C.heldX (Sh := fun w' => ∃ (ls : LI), M w (Nn) w' [Rg.sl i64 3 v30 ls] ∧ ls.length = n) hM (by kernel_rfl) fun wh5 hM => ?_
    have hS : ∃ (ls : LI), M w (Nn) wh5 [Rg.sl i64 3 v30 ls] ∧ ls.length = n := ⟨_, hM.pick [0] (by decide), by simp; omega⟩
    refine H.take 0 rfl rfl (by kernel_rfl) (by kernel_rfl) (by kernel_rfl) hS (fun w' ⟨ls, hM, hX⟩ => Y.mv rfl) rfl ?_
    refine H.take 1 rfl rfl (by kernel_rfl) (by kernel_rfl) (by kernel_rfl) hS (fun w' ⟨ls, hM, hX⟩ => Y.mv rfl) rfl ?_
    refine H.take 2 rfl rfl (by kernel_rfl) (by kernel_rfl) (by kernel_rfl) hS (fun w' ⟨ls, hM, hX⟩ => Y.mv rfl) rfl ?_
    refine H.takeV 3 rfl rfl (by kernel_rfl) (by kernel_rfl) (by kernel_rfl) hS (Y.slcP (k' := .i64) k n rfl (.inl rfl) (.inr ⟨rfl, hX.symm⟩) (hM.sl 0 rfl) Tryd.underlying29 (by kernel_rfl) (by omega) (by omega)) (fun w' ⟨ls, hM, hX⟩ => Y.slcP (k' := .i64) k n rfl (.inl rfl) (.inr ⟨rfl, hX.symm⟩) (hM.sl 0 rfl) Tryd.underlying29 (by kernel_rfl) (by omega) (by omega)) rfl ?_
    refine H.take 4 rfl rfl (by kernel_rfl) (by kernel_rfl) (by kernel_rfl) hS (fun w' ⟨ls, hM, hX⟩ => Y.mv rfl) rfl ?_
    refine H.take 5 rfl rfl (by kernel_rfl) (by kernel_rfl) (by kernel_rfl) hS (fun w' ⟨ls, hM, hX⟩ => Y.mv rfl) rfl ?_
    refine H.takeV 6 rfl rfl (by kernel_rfl) (by kernel_rfl) (by kernel_rfl) hS (Y.slcP (k := .i64) 0 k rfl (.inr ⟨rfl, rfl⟩) (.inl rfl) (hM.sl 0 rfl) Tryd.underlying29 (by kernel_rfl) (by omega) (by omega)) (fun w' ⟨ls, hM, hX⟩ => Y.slcP (k := .i64) 0 k rfl (.inr ⟨rfl, rfl⟩) (.inl rfl) (hM.sl 0 rfl) Tryd.underlying29 (by kernel_rfl) (by omega) (by omega)) rfl ?_
    have hc := (hM.sl 0 rfl).partV (a := 0) (b := k) (by omega) (by omega)
    rw [show cutL 0 k (List.replicate k x ++ List.replicate (n - k) 0) = List.replicate k x by unfold cutL; rw [List.drop_zero, Nat.sub_zero, List.take_left' (by simp)]] at hc
    have hdv := partV_hd (hM.sl 0 rfl) (k := k) (by omega)
    rw [hX] at hdv
    refine H.only 7 rfl (by kernel_rfl) ?_
    refine E.copyM (l := (List.replicate k x ++ List.replicate (n - k) 0)) 0 k hM rfl rfl rfl (by rw [hX]; exact hdv) hc (by simp; omega) (by omega) Tryd.underlying29 (by kernel_rfl) (fun _ => rfl) rfl fun w6 hM => ?_
    rw [hX, List.length_replicate]
    have hM : M w Nn w6 [Rg.sl i64 3 v30 (List.replicate (k + min k (n - k)) x ++ List.replicate (n - (k + min k (n - k))) 0)] := hM.to (by rw [hX, List.take_replicate, ovr_rep x 0 n _ k (by omega), Nat.min_comm (n - k) k]; rfl)
    have hS : ∃ (ls : LI), M w (Nn) _ [Rg.sl i64 3 v30 ls] ∧ ls.length = n := ⟨_, hM.pick [0] (by decide), by simp; omega⟩
    refine H.back hS ?_
    refine H.take 8 rfl rfl (by kernel_rfl) (by kernel_rfl) (by kernel_rfl) hS (fun w' ⟨ls, hM, hX⟩ => Y.addN (a := k) (b := min k (n - k)) rfl rfl (by omega)) rfl ?_
    refine H.take 9 rfl rfl (by kernel_rfl) (by kernel_rfl) (by kernel_rfl) hS (fun w' ⟨ls, hM, hX⟩ => Y.asg rfl) rfl ?_
    refine H.done (by kernel_rfl) ?_

    refine X.outN <| X.again1 (k + min k (n - k)) (Sub.cons rfl <| Sub.nil _) rfl ⟨hM, by omega, by omega⟩ (by omega)
  ·
    obtain rfl : k = n := by omega
    refine C.exit <| X.exitT <| X.exitT <| X.outE <| X.next <| C.seq <| C.region <| E.mv rfl rfl <| E.asg rfl rfl <| E.nil <| X.next <| C.ret <| ret1 rfl rfl ?_
    exact hM.to (by rw [Nat.sub_self, List.replicate_zero, List.append_nil])

end Go.Proofs.YtcmgbjmcklfkcaaDoor
