/- Texts of the claim, laid together: Pf1, Pf2, Pf3. -/
import Derived.Test.YtcmgbjmcklfkcaaDoorProg
import Derived.Test.YtcmgbjmcklfkcaaDoorG10
import Derived.Test.YtcmgbjmcklfkcaaDoorG11
/- prefix: within, kraft, check, Check, Cost; the reference's. -/
namespace Go.Proofs.YtcmgbjmcklfkcaaDoor
set_option linter.unusedSimpArgs false
set_option linter.unusedVariables false
open Go.RowKit Sym

theorem elem_Tint : Elem Tryd.prog 3 1 8 := elem_of (z := .int .i64 0) (by kernel_rfl) rfl (by decide)
theorem elem_Tbool : Elem Tryd.prog 4 1 1 := elem_of (z := .bool false) (by kernel_rfl) rfl (by decide)
abbrev nilI : Value := .slice none 0 0
/-- numbers that are not negative -/
def nz (l : List Nat) : List Int := l.map (fun n : Nat => (n : Int))
theorem nz_len (l : List Nat) : (nz l).length = l.length := by simp [nz]
theorem nz_get {l : List Nat} {i : Nat} (h : i < l.length) : (nz l)[i]'(by rw [nz_len]; exact h) = (l[i] : Int) := by simp [nz]
/-- all of them from 0 to m -/
def okr (zs : List Int) (m : Int) : Bool := zs.all fun z => decide (0 ≤ z ∧ z ≤ m)
theorem okr_iff {zs : List Int} {m : Int} : okr zs m = true ↔ ∀ z ∈ zs, 0 ≤ z ∧ z ≤ m := by simp [okr]
theorem okr_bad {zs : List Int} {m : Int} {i : Nat} (hi : i < zs.length) (h : zs[i] < 0 ∨ m < zs[i]) : okr zs m = false := by
  cases e : okr zs m with
  | false => rfl
  | true => have := okr_iff.1 e zs[i] (List.getElem_mem hi); omega
theorem okr_take {zs : List Int} {m : Int} {i : Nat} (hi : i < zs.length) (h : okr (zs.take i) m = true) (h2 : ¬ (zs[i] < 0 ∨ m < zs[i])) : okr (zs.take (i + 1)) m = true := by
  rw [okr_iff] at *
  intro z hz
  rw [← List.take_append_getElem hi, List.mem_append, List.mem_singleton] at hz
  rcases hz with hz | rfl
  · exact h z hz
  · omega
/-- the numbers of a list, cut off at 0 -/
def toN (zs : List Int) : List Nat := zs.map Int.toNat
theorem toN_nz {zs : List Int} {m : Nat} (h : okr zs m = true) : zs = nz (toN zs) ∧ ∀ n ∈ toN zs, n ≤ m := by
  rw [okr_iff] at h
  refine ⟨?_, fun n hn => ?_⟩
  · unfold nz toN
    rw [List.map_map]
    conv => lhs; rw [← List.map_id zs]
    refine List.map_congr_left fun z hz => ?_
    have := h z hz
    show z = ((z.toNat : Nat) : Int); omega
  · obtain ⟨z, hz, rfl⟩ := List.mem_map.1 hn
    have := h z hz; omega
theorem toN_len (zs : List Int) : (toN zs).length = zs.length := by simp [toN]
theorem kr_take {l : List Nat} {i : Nat} (h : i < l.length) : Pf.kr (l.take (i + 1)) = Pf.kr (l.take i) + Pf.un l[i] := by
  rw [← List.take_append_getElem h, Pf.kr_app]; simp [Pf.kr]
theorem kr_bound (l : List Nat) (i : Nat) (h : l.length ≤ 4096) : Pf.kr (l.take i) ≤ 536870912 * 4096 := by
  have h1 := Pf.kr_le (l.take i)
  have h2 : (l.take i).length ≤ 4096 := by rw [List.length_take]; omega
  have h3 := Nat.mul_le_mul_left (2 ^ 29) h2
  omega
theorem un_shr {n : Nat} (h0 : 0 < n) (h : n ≤ 30) : (1073741824 : Int) / 2 ^ min ((n : Int)).toNat IntKind.i64.bits = (Pf.un n : Int) := by
  have e : min ((n : Int)).toNat IntKind.i64.bits = n := by rw [Int.toNat_natCast]; simp [IntKind.bits]; omega
  rw [e, Pf.un, if_neg (by omega)]
  have : (1073741824 : Int) = ((2 ^ 30 : Nat) : Int) := by decide
  rw [this]
  have h2 : ((2 : Int) ^ n) = ((2 ^ n : Nat) : Int) := by simp
  rw [h2, ← Int.natCast_ediv, Nat.pow_div h (by decide)]
theorem un_shl {n : Nat} (h0 : 0 < n) (h : n ≤ 30) : IntKind.i64.wrap ((1 : Int) * 2 ^ min (((30 - n : Nat) : Int)).toNat IntKind.i64.bits) = (Pf.un n : Int) := by
  have e : min (((30 - n : Nat) : Int)).toNat IntKind.i64.bits = 30 - n := by rw [Int.toNat_natCast]; simp [IntKind.bits]; omega
  have h1 := Pf.un_le n
  rw [e, Int.one_mul]
  have h2 : ((2 : Int) ^ (30 - n)) = (Pf.un n : Int) := by rw [Pf.un, if_neg (by omega)]; simp
  rw [h2]; exact IntWalk.i64_in _ (by omega)
/-- what the checks of a code's lengths answer -/
def ckv (zs : List Int) : Int := if 4096 < zs.length then 4 else if okr zs 30 = true then (if 1073741824 < Pf.kr (toN zs) then 27 else 0) else 3
theorem within_ret (p : Value) (zs : List Int) (m : Int) (w : World) (hr : RdL i64 w p zs) :
    Ret Tryd.prog 69 #[p, i64 m] w fun v w' => v = i64 (if 4096 < zs.length then 4 else if okr zs m = true then 0 else 3) ∧ Ext w w' := by
  have hM := M.start w
  refine enter Tryd.func69 rfl (by kernel_rfl) Tryd.ntmps69 rfl ?_
  refine C.seq <| C.region <| E.asg rfl rfl <| E.nil <| X.next <| C.seq <| C.seq <| C.region <| E.mv rfl rfl <| ?_
  refine E.lenv rfl (Rd.shape (by first | exact hM.sl 0 rfl | exact hM.sl 1 rfl | exact hM.sl 2 rfl | exact hM.arg0 (by assumption) | exact hM.arg (by assumption) (by assumption) | assumption)) Tryd.underlying29 rfl ?_
  refine E.bin rfl rfl rfl rfl <| E.nil <| X.next <| ?_
  refine C.cond' rfl (fun hC0 => ?_) (fun hC0 => ?_)
  ·
    refine C.seq <| C.region <| E.asg rfl rfl <| E.nil <| X.next <| C.ret <| X.retT <| ret1 rfl rfl ?_
    exact ⟨by rw [if_pos (by omega)], hM.toExt⟩
  ·
    refine C.skip <| X.next <| C.seq <| C.seq <| C.region <| E.mv rfl rfl <| ?_
    refine E.lenv rfl (Rd.shape (by first | exact hM.sl 0 rfl | exact hM.sl 1 rfl | exact hM.sl 2 rfl | exact hM.arg0 (by assumption) | exact hM.arg (by assumption) (by assumption) | assumption)) Tryd.underlying29 rfl ?_
    refine E.mv rfl rfl <| E.nil <| X.next <| C.block <| ?_

    refine C.loop1 [(1, _), (10, _), (11, _)] rfl (fun (i : Nat) => [(12, i64 i)]) (fun (i : Nat) w' => M w (Nn) w' [] ∧ i ≤ zs.length ∧ okr (zs.take i) m = true) (fun (i : Nat) => zs.length - i) 0 ?_ ?_ ?_
    · exact Sub.cons rfl <| Sub.nil _
    · exact ⟨hM, Nat.zero_le _, rfl⟩
    rintro i w0 ⟨hM, hi, ho⟩
    refine C.seq <| C.region <| E.bin rfl rfl rfl rfl <| E.nil <| X.next <| C.seq <| ?_
    refine C.cond' rfl (fun hC1 => ?_) (fun hC1 => ?_)
    ·
      have hi' : i < zs.length := by omega
      refine C.skip <| X.next <| C.seq <| C.block <| C.seq <| C.region <| ?_
      refine E.get (k := _) rfl rfl (by first | exact hM.sl 0 rfl | exact hM.sl 1 rfl | exact hM.sl 2 rfl | exact hM.arg0 (by assumption) | exact hM.arg (by assumption) (by assumption) | assumption) rfl (by first | omega | (simp only [List.length_replicate, List.length_append, List.length_set, List.length_cons, List.length_nil, List.length_map, List.length_range, List.length_take, List.length_drop, List.length_zipWith] at *; omega)) Tryd.underlying29 (by kernel_rfl) Tryd.underlying3 rfl rfl rfl ?_
      refine E.asg rfl rfl <| E.nil <| X.next <| ?_

      refine C.chainE [(1, _), (10, _), (11, _), (12, _)] rfl [(22, .bool (decide (zs[i] < 0 ∨ m < zs[i])))] ?_ ?_
      ·
        refine C.region <| E.mv rfl rfl <| E.bin rfl rfl rfl rfl <| E.mv rfl rfl <| ?_
        refine E.split 18 rfl (fun g18 => ?_) (fun g18 => ?_)
        ·
          try simp only [decide_eq_true_eq, decide_eq_false_iff_not, ne_eq, Decidable.not_not, Bool.not_eq_true', Bool.not_eq_false'] at g18
          refine E.off rfl rfl rfl rfl <| E.off rfl rfl rfl rfl <| E.off rfl rfl rfl rfl <| E.pick rfl rfl rfl <| E.nil <| X.join0 (Sub.cons (by (first | exact leaf_f (by omega) | exact leaf_t (by omega) | exact leaf_d (by omega) | exact leaf_f (by first | (simp [*] <;> fail) | omega) | exact leaf_t (by first | (simp [*] <;> fail) | omega) | exact leaf_d (by first | (simp [*] <;> fail) | omega) | exact leaf_f (by (first | omega | ((try simp only [decide_eq_true_eq, decide_eq_false_iff_not, Bool.not_eq_true', Bool.not_eq_false'] at *); first | omega | (simp_all <;> fail) | (simp_all; omega)))) | exact leaf_t (by (first | omega | ((try simp only [decide_eq_true_eq, decide_eq_false_iff_not, Bool.not_eq_true', Bool.not_eq_false'] at *); first | omega | (simp_all <;> fail) | (simp_all; omega)))) | exact leaf_d (by (first | omega | ((try simp only [decide_eq_true_eq, decide_eq_false_iff_not, Bool.not_eq_true', Bool.not_eq_false'] at *); first | omega | (simp_all <;> fail) | (simp_all; omega)))))) <| Sub.nil _) rfl rfl
        ·
          try simp only [decide_eq_true_eq, decide_eq_false_iff_not, ne_eq, Decidable.not_not, Bool.not_eq_true', Bool.not_eq_false'] at g18
          refine E.on rfl rfl (E.mv rfl rfl ?_)
          refine E.on rfl rfl (E.mv rfl rfl ?_)
          refine E.on rfl rfl (E.bin rfl rfl rfl rfl ?_)
          refine E.pick rfl rfl rfl <| E.nil <| X.join0 (Sub.cons (by (first | exact leaf_f (by omega) | exact leaf_t (by omega) | exact leaf_d (by omega) | exact leaf_f (by first | (simp [*] <;> fail) | omega) | exact leaf_t (by first | (simp [*] <;> fail) | omega) | exact leaf_d (by first | (simp [*] <;> fail) | omega) | exact leaf_f (by (first | omega | ((try simp only [decide_eq_true_eq, decide_eq_false_iff_not, Bool.not_eq_true', Bool.not_eq_false'] at *); first | omega | (simp_all <;> fail) | (simp_all; omega)))) | exact leaf_t (by (first | omega | ((try simp only [decide_eq_true_eq, decide_eq_false_iff_not, Bool.not_eq_true', Bool.not_eq_false'] at *); first | omega | (simp_all <;> fail) | (simp_all; omega)))) | exact leaf_d (by (first | omega | ((try simp only [decide_eq_true_eq, decide_eq_false_iff_not, Bool.not_eq_true', Bool.not_eq_false'] at *); first | omega | (simp_all <;> fail) | (simp_all; omega)))))) <| Sub.nil _) rfl rfl
      refine C.cond' rfl (fun hC2 => ?_) (fun hC2 => ?_)
      ·
        refine C.seq <| C.region <| E.asg rfl rfl <| E.nil <| X.next <| C.ret <| X.retB <| X.retT <| X.retT <| X.retB <| X.retT <| ret1 rfl rfl ?_
        exact ⟨by rw [if_neg (by omega), okr_bad hi' hC2]; rfl, hM.toExt⟩
      ·
        refine C.skip <| X.outN <| X.next <| C.region <| ?_
        refine E.add rfl rfl (by omega) rfl ?_

        refine E.mv rfl rfl <| E.nil <| X.again1 (i + 1) (Sub.cons rfl <| Sub.nil _) rfl ⟨hM, by omega, okr_take hi' ho hC2⟩ (by omega)
    ·
      rw [List.take_of_length_le (by omega)] at ho
      refine C.exit <| X.exitT <| X.exitT <| X.outE <| X.next <| C.seq <| C.region <| E.asg rfl rfl <| E.nil <| X.next <| C.ret <| ret1 rfl rfl ?_
      exact ⟨by rw [if_neg (by omega), if_pos ho], hM.toExt⟩

theorem right_ret (p : Value) (zs : List Int) (m : Int) (w : World) (hr : RdL i64 w p zs) :
    Ret Tryd.prog 85 #[p, i64 m] w fun v w' => v = i64 (if okr zs m = true then 0 else 3) ∧ Ext w w' := by
  have hM := M.start w
  refine enter Tryd.func85 rfl (by kernel_rfl) Tryd.ntmps85 rfl ?_
  refine C.seq <| C.region <| E.asg rfl rfl <| E.nil <| X.next <| C.seq <| C.seq <| C.region <| E.asg rfl rfl <| E.nil <| X.next <| C.block <| ?_
  have hle := Rd.le hr

  refine C.loop1 [(0, _), (1, _)] rfl (fun (i : Nat) => [(5, i64 i)]) (fun (i : Nat) w' => M w (Nn) w' [] ∧ i ≤ zs.length ∧ okr (zs.take i) m = true) (fun (i : Nat) => zs.length - i) 0 ?_ ?_ ?_
  · exact Sub.cons rfl <| Sub.nil _
  · exact ⟨hM, Nat.zero_le _, rfl⟩
  rintro i w0 ⟨hM, hi, ho⟩
  refine C.seq <| C.seq <| C.region <| E.mv rfl rfl <| E.mv rfl rfl <| ?_
  refine E.lenv rfl (Rd.shape (by first | exact hM.sl 0 rfl | exact hM.sl 1 rfl | exact hM.sl 2 rfl | exact hM.arg0 (by assumption) | exact hM.arg (by assumption) (by assumption) | assumption)) Tryd.underlying29 rfl ?_
  refine E.bin rfl rfl rfl rfl <| E.nil <| X.next <| ?_
  refine C.cond' rfl (fun hC0 => ?_) (fun hC0 => ?_)
  ·
    have hi' : i < zs.length := by omega
    refine C.skip <| X.next <| C.seq <| C.block <| ?_

    refine C.chainE [(0, _), (1, _), (5, _)] rfl [(24, .bool (decide (zs[i] < 0 ∨ m < zs[i])))] ?_ ?_
    ·
      refine C.region <| E.mv rfl rfl <| E.mv rfl rfl <| ?_
      refine E.get (k := _) rfl rfl (by first | exact hM.sl 0 rfl | exact hM.sl 1 rfl | exact hM.sl 2 rfl | exact hM.arg0 (by assumption) | exact hM.arg (by assumption) (by assumption) | assumption) rfl (by first | omega | (simp only [List.length_replicate, List.length_append, List.length_set, List.length_cons, List.length_nil, List.length_map, List.length_range, List.length_take, List.length_drop, List.length_zipWith] at *; omega)) Tryd.underlying29 (by kernel_rfl) Tryd.underlying3 rfl rfl rfl ?_
      refine E.bin rfl rfl rfl rfl <| E.mv rfl rfl <| ?_
      refine E.split 17 rfl (fun g17 => ?_) (fun g17 => ?_)
      ·
        try simp only [decide_eq_true_eq, decide_eq_false_iff_not, ne_eq, Decidable.not_not, Bool.not_eq_true', Bool.not_eq_false'] at g17
        refine E.off rfl rfl rfl rfl <| E.off rfl rfl rfl rfl <| E.off rfl rfl rfl rfl <| E.off rfl rfl rfl rfl <| E.off rfl rfl rfl rfl <| E.off rfl rfl rfl rfl <| E.pick rfl rfl rfl <| E.nil <| X.join0 (Sub.cons (by (first | exact leaf_f (by omega) | exact leaf_t (by omega) | exact leaf_d (by omega) | exact leaf_f (by first | (simp [*] <;> fail) | omega) | exact leaf_t (by first | (simp [*] <;> fail) | omega) | exact leaf_d (by first | (simp [*] <;> fail) | omega) | exact leaf_f (by (first | omega | ((try simp only [decide_eq_true_eq, decide_eq_false_iff_not, Bool.not_eq_true', Bool.not_eq_false'] at *); first | omega | (simp_all <;> fail) | (simp_all; omega)))) | exact leaf_t (by (first | omega | ((try simp only [decide_eq_true_eq, decide_eq_false_iff_not, Bool.not_eq_true', Bool.not_eq_false'] at *); first | omega | (simp_all <;> fail) | (simp_all; omega)))) | exact leaf_d (by (first | omega | ((try simp only [decide_eq_true_eq, decide_eq_false_iff_not, Bool.not_eq_true', Bool.not_eq_false'] at *); first | omega | (simp_all <;> fail) | (simp_all; omega)))))) <| Sub.nil _) rfl rfl
      ·
        try simp only [decide_eq_true_eq, decide_eq_false_iff_not, ne_eq, Decidable.not_not, Bool.not_eq_true', Bool.not_eq_false'] at g17
        refine E.on rfl rfl (E.mv rfl rfl ?_)
        refine E.on rfl rfl (E.mv rfl rfl ?_)
        refine E.on rfl rfl (E.idx1 (k := _) rfl rfl (by first | exact hM.sl 0 rfl | exact hM.sl 1 rfl | exact hM.sl 2 rfl | exact hM.arg0 (by assumption) | exact hM.arg (by assumption) (by assumption) | assumption) rfl (by first | omega | (simp only [List.length_replicate, List.length_append, List.length_set, List.length_cons, List.length_nil, List.length_map, List.length_range, List.length_take, List.length_drop, List.length_zipWith] at *; omega)) Tryd.underlying29 (by kernel_rfl) rfl ?_)
        refine E.on rfl rfl (E.load rfl Tryd.underlying3 rfl (by first | exact (hM.sl 0 rfl).cellA rfl (by first | omega | (simp only [List.length_replicate, List.length_append, List.length_set, List.length_cons, List.length_nil, List.length_map, List.length_range, List.length_take, List.length_drop, List.length_zipWith] at *; omega)) | exact (hM.sl 1 rfl).cellA rfl (by first | omega | (simp only [List.length_replicate, List.length_append, List.length_set, List.length_cons, List.length_nil, List.length_map, List.length_range, List.length_take, List.length_drop, List.length_zipWith] at *; omega)) | exact (hM.sl 2 rfl).cellA rfl (by first | omega | (simp only [List.length_replicate, List.length_append, List.length_set, List.length_cons, List.length_nil, List.length_map, List.length_range, List.length_take, List.length_drop, List.length_zipWith] at *; omega)) | exact (hM.arg0 (by assumption)).cellA rfl (by first | omega | (simp only [List.length_replicate, List.length_append, List.length_set, List.length_cons, List.length_nil, List.length_map, List.length_range, List.length_take, List.length_drop, List.length_zipWith] at *; omega)) | exact (hM.arg (by assumption) (by assumption)).cellA rfl (by first | omega | (simp only [List.length_replicate, List.length_append, List.length_set, List.length_cons, List.length_nil, List.length_map, List.length_range, List.length_take, List.length_drop, List.length_zipWith] at *; omega))) rfl ?_)
        refine E.on rfl rfl (E.mv rfl rfl ?_)
        refine E.on rfl rfl (E.bin rfl rfl rfl rfl ?_)
        refine E.pick rfl rfl rfl <| E.nil <| X.join0 (Sub.cons (by (first | exact leaf_f (by omega) | exact leaf_t (by omega) | exact leaf_d (by omega) | exact leaf_f (by first | (simp [*] <;> fail) | omega) | exact leaf_t (by first | (simp [*] <;> fail) | omega) | exact leaf_d (by first | (simp [*] <;> fail) | omega) | exact leaf_f (by (first | omega | ((try simp only [decide_eq_true_eq, decide_eq_false_iff_not, Bool.not_eq_true', Bool.not_eq_false'] at *); first | omega | (simp_all <;> fail) | (simp_all; omega)))) | exact leaf_t (by (first | omega | ((try simp only [decide_eq_true_eq, decide_eq_false_iff_not, Bool.not_eq_true', Bool.not_eq_false'] at *); first | omega | (simp_all <;> fail) | (simp_all; omega)))) | exact leaf_d (by (first | omega | ((try simp only [decide_eq_true_eq, decide_eq_false_iff_not, Bool.not_eq_true', Bool.not_eq_false'] at *); first | omega | (simp_all <;> fail) | (simp_all; omega)))))) <| Sub.nil _) rfl rfl
    refine C.cond' rfl (fun hC1 => ?_) (fun hC1 => ?_)
    ·
      refine C.seq <| C.region <| E.asg rfl rfl <| E.nil <| X.next <| C.ret <| X.retB <| X.retT <| X.retT <| X.retB <| X.retT <| ret1 rfl rfl ?_
      exact ⟨by rw [okr_bad hi' hC1]; rfl, hM.toExt⟩
    ·
      refine C.skip <| X.outN <| X.next <| C.region <| E.mv rfl rfl <| ?_
      refine E.add rfl rfl (by omega) rfl ?_

      refine E.asg rfl rfl <| E.nil <| X.again1 (i + 1) (Sub.cons rfl <| Sub.nil _) rfl ⟨hM, by omega, okr_take hi' ho hC1⟩ (by omega)
  ·
    rw [List.take_of_length_le (by omega)] at ho
    refine C.exit <| X.exitT <| X.exitT <| X.outE <| X.next <| C.seq <| C.region <| E.asg rfl rfl <| E.nil <| X.next <| C.ret <| ret1 rfl rfl ?_
    exact ⟨by rw [if_pos ho], hM.toExt⟩

theorem kraft_ret (p : Value) (l : List Nat) (w : World) (hr : RdL i64 w p (nz l)) (hb : ∀ n ∈ l, n ≤ 30) (hlen : l.length ≤ 4096) :
    Ret Tryd.prog 97 #[p] w fun v w' => v = i64 (Pf.kr l : Int) ∧ Ext w w' := by
  have hM := M.start w
  refine enter Tryd.func97 rfl (by kernel_rfl) Tryd.ntmps97 rfl ?_
  refine C.seq <| C.region <| E.asg rfl rfl <| E.nil <| X.next <| C.seq <| C.region <| E.asg rfl rfl <| E.nil <| X.next <| C.seq <| C.seq <| C.region <| E.mv rfl rfl <| ?_
  refine E.lenv rfl (Rd.shape (by first | exact hM.sl 0 rfl | exact hM.sl 1 rfl | exact hM.sl 2 rfl | exact hM.arg0 (by assumption) | exact hM.arg (by assumption) (by assumption) | assumption)) Tryd.underlying29 rfl ?_
  refine E.mv rfl rfl <| E.nil <| X.next <| C.block <| ?_
  have hnl := nz_len l

  refine C.loop1 [(6, _), (7, _)] rfl (fun (i : Nat) => [(3, i64 (Pf.kr (l.take i) : Int)), (8, i64 i)]) (fun (i : Nat) w' => M w (Nn) w' [] ∧ i ≤ l.length) (fun (i : Nat) => l.length - i) 0 ?_ ?_ ?_
  · exact Sub.cons rfl <| Sub.cons rfl <| Sub.nil _
  · exact ⟨hM, Nat.zero_le _⟩
  rintro i w0 ⟨hM, hi⟩
  refine C.seq <| C.region <| E.bin rfl rfl rfl rfl <| E.nil <| X.next <| C.seq <| ?_
  refine C.cond' rfl (fun hC0 => ?_) (fun hC0 => ?_)
  ·
    have hi' : i < l.length := by omega
    have hbi := hb l[i] (List.getElem_mem hi')
    have hkt := kr_take hi'
    have hkb := kr_bound l i hlen
    have hul := Pf.un_le l[i]
    refine C.skip <| X.next <| ?_

    refine C.cut0 [(6, _), (7, _), (8, _)] rfl [(3, i64 (Pf.kr (l.take (i + 1)) : Int))] (fun w' => M w (Nn) w' []) ?_ ?_
    ·
      refine C.block <| C.seq <| C.region <| ?_
      refine E.get (k := i) rfl rfl (hM.arg0 hr) rfl (by omega) Tryd.underlying29 (by kernel_rfl) Tryd.underlying3 rfl rfl rfl ?_
      rw [nz_get hi']
      refine E.asg rfl rfl <| E.nil <| X.next <| C.seq <| C.region <| E.mv rfl rfl <| E.bin rfl rfl rfl rfl <| E.nil <| X.next <| ?_
      refine C.cond' rfl (fun hC1 => ?_) (fun hC1 => ?_)
      ·
        refine C.region <| E.mv rfl rfl <| E.mv rfl rfl <| ?_
        refine E.shr rfl rfl (by omega) (un_shr (by omega) hbi) rfl ?_
        refine E.addN rfl rfl (by first | omega | (simp only [List.length_replicate, List.length_append, List.length_set, List.length_cons, List.length_nil, List.length_map, List.length_range, List.length_take, List.length_drop, List.length_zipWith] at *; omega)) rfl ?_

        refine E.asg rfl rfl <| E.nil <| X.outN <| X.join0  (Sub.cons (look_val rfl (by rw [hkt])) <| Sub.nil _) rfl hM
      ·

        refine C.skip <| X.outN <| X.join0  (Sub.cons (look_val rfl (by rw [hkt, Pf.un, if_pos (by omega)]; rfl)) <| Sub.nil _) rfl hM
    rintro  w1 hM
    refine C.region <| ?_
    refine E.add rfl rfl (by omega) rfl ?_

    refine E.mv rfl rfl <| E.nil <| X.again1 (i + 1) (Sub.cons rfl <| Sub.cons rfl <| Sub.nil _) rfl ⟨hM, by omega⟩ (by omega)
  ·
    obtain rfl : i = l.length := by omega
    rw [List.take_length]
    refine C.exit <| X.exitT <| X.exitT <| X.outE <| X.next <| C.seq <| C.region <| E.mv rfl rfl <| E.asg rfl rfl <| E.nil <| X.next <| C.ret <| ret1 rfl rfl ?_
    exact ⟨rfl, hM.toExt⟩

theorem rKraft_ret (p : Value) (l : List Nat) (w : World) (hr : RdL i64 w p (nz l)) (hb : ∀ n ∈ l, n ≤ 30) (hlen : l.length ≤ 4096) :
    Ret Tryd.prog 82 #[p] w fun v w' => v = i64 (Pf.kr l : Int) ∧ Ext w w' := by
  have hM := M.start w
  refine enter Tryd.func82 rfl (by kernel_rfl) Tryd.ntmps82 rfl ?_
  refine C.seq <| C.region <| E.asg rfl rfl <| E.nil <| X.next <| C.seq <| C.region <| E.asg rfl rfl <| E.nil <| X.next <| C.seq <| C.seq <| C.region <| E.asg rfl rfl <| E.nil <| X.next <| C.block <| ?_
  have hnl := nz_len l

  refine C.loop1 [(0, _)] rfl (fun (i : Nat) => [(3, i64 (Pf.kr (l.take i) : Int)), (4, i64 i)]) (fun (i : Nat) w' => M w (Nn) w' [] ∧ i ≤ l.length) (fun (i : Nat) => l.length - i) 0 ?_ ?_ ?_
  · exact Sub.cons rfl <| Sub.cons rfl <| Sub.nil _
  · exact ⟨hM, Nat.zero_le _⟩
  rintro i w0 ⟨hM, hi⟩
  refine C.seq <| C.seq <| C.region <| E.mv rfl rfl <| E.mv rfl rfl <| ?_
  refine E.lenv rfl (Rd.shape (by first | exact hM.sl 0 rfl | exact hM.sl 1 rfl | exact hM.sl 2 rfl | exact hM.arg0 (by assumption) | exact hM.arg (by assumption) (by assumption) | assumption)) Tryd.underlying29 rfl ?_
  refine E.bin rfl rfl rfl rfl <| E.nil <| X.next <| ?_
  refine C.cond' rfl (fun hC0 => ?_) (fun hC0 => ?_)
  ·
    have hi' : i < l.length := by omega
    have hbi := hb l[i] (List.getElem_mem hi')
    have hkt := kr_take hi'
    have hkb := kr_bound l i hlen
    have hul := Pf.un_le l[i]
    refine C.skip <| X.next <| ?_

    refine C.cut0 [(0, _), (4, _)] rfl [(3, i64 (Pf.kr (l.take (i + 1)) : Int))] (fun w' => M w (Nn) w' []) ?_ ?_
    ·
      refine C.block <| C.seq <| C.region <| E.mv rfl rfl <| E.mv rfl rfl <| ?_
      refine E.get (k := i) rfl rfl (hM.arg0 hr) rfl (by omega) Tryd.underlying29 (by kernel_rfl) Tryd.underlying3 rfl rfl rfl ?_
      rw [nz_get hi']
      refine E.bin rfl rfl rfl rfl <| E.nil <| X.next <| ?_
      refine C.cond' rfl (fun hC1 => ?_) (fun hC1 => ?_)
      ·
        refine C.region <| E.mv rfl rfl <| E.mv rfl rfl <| E.mv rfl rfl <| ?_
        refine E.get (k := i) rfl rfl (hM.arg0 hr) rfl (by omega) Tryd.underlying29 (by kernel_rfl) Tryd.underlying3 rfl rfl rfl ?_
        rw [nz_get hi']
        refine E.subN (a := 30) (b := l[i]) rfl rfl (by omega) rfl ?_
        refine E.conv rfl Tryd.underlying3 Tryd.underlying67 (IntWalk.u64_in _ (by omega)) rfl ?_
        refine E.shl rfl rfl (by omega) (un_shl (by omega) hbi) rfl ?_
        refine E.addN rfl rfl (by first | omega | (simp only [List.length_replicate, List.length_append, List.length_set, List.length_cons, List.length_nil, List.length_map, List.length_range, List.length_take, List.length_drop, List.length_zipWith] at *; omega)) rfl ?_

        refine E.asg rfl rfl <| E.nil <| X.outN <| X.join0  (Sub.cons (look_val rfl (by rw [hkt])) <| Sub.nil _) rfl hM
      ·

        refine C.skip <| X.outN <| X.join0  (Sub.cons (look_val rfl (by rw [hkt, Pf.un, if_pos (by omega)]; rfl)) <| Sub.nil _) rfl hM
    rintro  w1 hM
    refine C.region <| E.mv rfl rfl <| ?_
    refine E.add rfl rfl (by omega) rfl ?_

    refine E.asg rfl rfl <| E.nil <| X.again1 (i + 1) (Sub.cons rfl <| Sub.cons rfl <| Sub.nil _) rfl ⟨hM, by omega⟩ (by omega)
  ·
    obtain rfl : i = l.length := by omega
    rw [List.take_length]
    refine C.exit <| X.exitT <| X.exitT <| X.outE <| X.next <| C.seq <| C.region <| E.mv rfl rfl <| E.asg rfl rfl <| E.nil <| X.next <| C.ret <| ret1 rfl rfl ?_
    exact ⟨rfl, hM.toExt⟩

theorem ok_kr {w : World} {p : Value} {zs : List Int} (hr : RdL i64 w p zs) (h : okr zs 30 = true) : RdL i64 w p (nz (toN zs)) ∧ ∀ n ∈ toN zs, n ≤ 30 := by
  obtain ⟨h1, h2⟩ := toN_nz (m := 30) h
  exact ⟨by rw [← h1]; exact hr, h2⟩
theorem wt_ok {zs : List Int} {m : Int} (h : (if 4096 < zs.length then (4 : Int) else if okr zs m = true then 0 else 3) = 0) : zs.length ≤ 4096 ∧ okr zs m = true := by
  split at h
  · omega
  · split at h
    · exact ⟨by omega, by assumption⟩
    · omega
theorem check_ret (p : Value) (zs : List Int) (w : World) (hr : RdL i64 w p zs) :
    Ret Tryd.prog 79 #[p] w fun v w' => v = i64 (ckv zs) ∧ Ext w w' := by
  have hM := M.start w
  refine enter Tryd.func79 rfl (by kernel_rfl) Tryd.ntmps79 rfl ?_
  refine C.seq <| C.region <| E.asg rfl rfl <| E.nil <| X.next <| C.seq <| C.seq <| C.region <| E.mv rfl rfl <| ?_
  refine E.call rfl rfl (within_ret p zs 30 _ (hM.arg0 hr)) ?_
  rintro _ w1 ⟨rfl, x1⟩
  have hM := hM.ext x1
  try dsimp only [List.nil_append, List.cons_append, List.set_cons_zero, List.set_cons_succ, repl] at hM
  refine E.asg rfl rfl <| E.nil <| X.next <| C.seq <| C.region <| E.mv rfl rfl <| E.bin rfl rfl rfl rfl <| E.nil <| X.next <| ?_
  refine C.cond' rfl (fun hC0 => ?_) (fun hC0 => ?_)
  ·
    refine C.seq <| C.region <| E.mv rfl rfl <| E.asg rfl rfl <| E.nil <| X.next <| C.ret <| X.retT <| ret1 rfl rfl ?_
    exact ⟨by unfold ckv; congr 1; split; rfl; split; rename_i h1 h2; exact (hC0 (by rw [if_neg h1, if_pos h2])).elim; rfl, hM.toExt⟩
  ·
    obtain ⟨hl4, hok⟩ := wt_ok (Decidable.byContradiction hC0)
    have hkb := kr_bound (toN zs) (toN zs).length (by rw [toN_len]; exact hl4)
    rw [List.take_length] at hkb
    refine C.skip <| X.next <| C.seq <| C.seq <| C.region <| E.mv rfl rfl <| ?_
    refine E.call rfl rfl (kraft_ret p (toN zs) _ (ok_kr (hM.arg0 hr) hok).1 (ok_kr (hM.arg0 hr) hok).2 (by rw [toN_len]; exact hl4)) ?_
    rintro _ w2 ⟨rfl, x2⟩
    have hM := hM.ext x2
    try dsimp only [List.nil_append, List.cons_append, List.set_cons_zero, List.set_cons_succ, repl] at hM
    refine E.bin rfl rfl rfl rfl <| E.nil <| X.next <| ?_
    refine C.cond' rfl (fun hC1 => ?_) (fun hC1 => ?_)
    ·
      refine C.seq <| C.region <| E.asg rfl rfl <| E.nil <| X.next <| C.ret <| X.retT <| ret1 rfl rfl ?_
      exact ⟨by rw [ckv, if_neg (by omega), if_pos hok, if_pos (by omega)], hM.toExt⟩
    ·
      refine C.skip <| X.next <| C.seq <| C.region <| E.asg rfl rfl <| E.nil <| X.next <| C.ret <| ret1 rfl rfl ?_
      exact ⟨by rw [ckv, if_neg (by omega), if_pos hok, if_neg (by omega)], hM.toExt⟩

theorem rcheck_ret (p : Value) (zs : List Int) (w : World) (hr : RdL i64 w p zs) :
    Ret Tryd.prog 81 #[p] w fun v w' => v = i64 (if 4096 < zs.length then 4 else if okr zs 30 = true then 0 else 3) ∧ Ext w w' := by
  have hM := M.start w
  refine enter Tryd.func81 rfl (by kernel_rfl) Tryd.ntmps81 rfl ?_
  refine C.seq <| C.region <| E.asg rfl rfl <| E.nil <| X.next <| C.seq <| C.seq <| C.region <| E.mv rfl rfl <| ?_
  refine E.lenv rfl (Rd.shape (by first | exact hM.sl 0 rfl | exact hM.sl 1 rfl | exact hM.sl 2 rfl | exact hM.arg0 (by assumption) | exact hM.arg (by assumption) (by assumption) | assumption)) Tryd.underlying29 rfl ?_
  refine E.bin rfl rfl rfl rfl <| E.nil <| X.next <| ?_
  refine C.cond' rfl (fun hC0 => ?_) (fun hC0 => ?_)
  ·
    refine C.seq <| C.region <| E.asg rfl rfl <| E.nil <| X.next <| C.ret <| X.retT <| ret1 rfl rfl ?_
    exact ⟨by rw [if_pos (by omega)], hM.toExt⟩
  ·
    refine C.skip <| X.next <| C.seq <| C.region <| E.mv rfl rfl <| ?_
    refine E.call rfl rfl (right_ret p zs 30 _ (hM.arg0 hr)) ?_
    rintro _ w1 ⟨rfl, x1⟩
    have hM := hM.ext x1
    try dsimp only [List.nil_append, List.cons_append, List.set_cons_zero, List.set_cons_succ, repl] at hM
    refine E.asg rfl rfl <| E.nil <| X.next <| C.ret <| ret1 rfl rfl ?_
    exact ⟨by rw [if_neg (show ¬ 4096 < zs.length by omega)], hM.toExt⟩

/-- what Check answers -/
def chv (zs : List Int) : Int := if 4096 < zs.length then 4 else if okr zs 30 = true then (if Pf.kr (toN zs) = 0 then 5 else if Pf.kr (toN zs) = 1073741824 then 0 else 27) else 3
theorem Check_ret (p : Value) (zs : List Int) (w : World) (hr : RdL i64 w p zs) :
    Ret Tryd.prog 91 #[p] w fun v w' => v = i64 (chv zs) ∧ Ext w w' := by
  have hM := M.start w
  refine enter Tryd.func91 rfl (by kernel_rfl) Tryd.ntmps91 rfl ?_
  refine C.seq <| C.region <| E.asg rfl rfl <| E.nil <| X.next <| C.seq <| C.seq <| C.region <| E.mv rfl rfl <| ?_
  refine E.call rfl rfl (within_ret p zs 30 _ (hM.arg0 hr)) ?_
  rintro _ w1 ⟨rfl, x1⟩
  have hM := hM.ext x1
  try dsimp only [List.nil_append, List.cons_append, List.set_cons_zero, List.set_cons_succ, repl] at hM
  refine E.asg rfl rfl <| E.nil <| X.next <| C.seq <| C.region <| E.mv rfl rfl <| E.bin rfl rfl rfl rfl <| E.nil <| X.next <| ?_
  refine C.cond' rfl (fun hC0 => ?_) (fun hC0 => ?_)
  ·
    refine C.seq <| C.region <| E.mv rfl rfl <| E.asg rfl rfl <| E.nil <| X.next <| C.ret <| X.retT <| ret1 rfl rfl ?_
    exact ⟨by unfold chv; congr 1; split; rfl; split; rename_i h1 h2; exact (hC0 (by rw [if_neg h1, if_pos h2])).elim; rfl, hM.toExt⟩
  ·
    obtain ⟨hl4, hok⟩ := wt_ok (Decidable.byContradiction hC0)
    have hkb := kr_bound (toN zs) (toN zs).length (by rw [toN_len]; exact hl4)
    rw [List.take_length] at hkb
    refine C.skip <| X.next <| C.seq <| C.seq <| C.region <| E.mv rfl rfl <| ?_
    refine E.call rfl rfl (kraft_ret p (toN zs) _ (ok_kr (hM.arg0 hr) hok).1 (ok_kr (hM.arg0 hr) hok).2 (by rw [toN_len]; exact hl4)) ?_
    rintro _ w2 ⟨rfl, x2⟩
    have hM := hM.ext x2
    try dsimp only [List.nil_append, List.cons_append, List.set_cons_zero, List.set_cons_succ, repl] at hM
    refine E.nil <| X.next <| C.block <| C.seq <| C.region <| E.bin rfl rfl rfl rfl <| E.asg rfl rfl <| E.nil <| X.next <| ?_
    refine C.cond' rfl (fun hC1 => ?_) (fun hC1 => ?_)
    ·
      refine C.seq <| C.region <| E.asg rfl rfl <| E.nil <| X.next <| C.ret <| X.retB <| X.retT <| ret1 rfl rfl ?_
      exact ⟨by rw [chv, if_neg (show ¬ 4096 < zs.length by omega), if_pos hok]; first | (rw [if_pos (show Pf.kr (toN zs) = 0 by omega)]) | (rw [if_neg (show ¬ Pf.kr (toN zs) = 0 by omega), if_pos (show Pf.kr (toN zs) = 1073741824 by omega)]) | rw [if_neg (show ¬ Pf.kr (toN zs) = 0 by omega), if_neg (show ¬ Pf.kr (toN zs) = 1073741824 by omega)], hM.toExt⟩
    ·
      refine C.seq <| C.region <| E.bin rfl rfl rfl rfl <| E.asg rfl rfl <| E.nil <| X.next <| ?_
      refine C.cond' rfl (fun hC2 => ?_) (fun hC2 => ?_)
      ·
        refine C.seq <| C.region <| E.asg rfl rfl <| E.nil <| X.next <| C.ret <| X.retB <| X.retT <| ret1 rfl rfl ?_
        exact ⟨by rw [chv, if_neg (show ¬ 4096 < zs.length by omega), if_pos hok]; first | (rw [if_pos (show Pf.kr (toN zs) = 0 by omega)]) | (rw [if_neg (show ¬ Pf.kr (toN zs) = 0 by omega), if_pos (show Pf.kr (toN zs) = 1073741824 by omega)]) | rw [if_neg (show ¬ Pf.kr (toN zs) = 0 by omega), if_neg (show ¬ Pf.kr (toN zs) = 1073741824 by omega)], hM.toExt⟩
      ·
        refine C.skip <| X.outN <| X.next <| C.seq <| C.region <| E.asg rfl rfl <| E.nil <| X.next <| C.ret <| ret1 rfl rfl ?_
        exact ⟨by rw [chv, if_neg (show ¬ 4096 < zs.length by omega), if_pos hok]; first | (rw [if_pos (show Pf.kr (toN zs) = 0 by omega)]) | (rw [if_neg (show ¬ Pf.kr (toN zs) = 0 by omega), if_pos (show Pf.kr (toN zs) = 1073741824 by omega)]) | rw [if_neg (show ¬ Pf.kr (toN zs) = 0 by omega), if_neg (show ¬ Pf.kr (toN zs) = 1073741824 by omega)], hM.toExt⟩

end Go.Proofs.YtcmgbjmcklfkcaaDoor

/- prefix: Cost; the symbols in order. -/
namespace Go.Proofs.YtcmgbjmcklfkcaaDoor
set_option linter.unusedSimpArgs false
set_option linter.unusedVariables false
open Go.RowKit Sym

/-! arrays of numbers -/
theorem Sym.Ar_ex : ∃ f : Nat → TypeId → Nat → (Nat → Int) → Rg, ∀ b T N g, f b T N g = Rg.blk b T ((tab N g).map i64) := ⟨_, fun _ _ _ _ => rfl⟩
noncomputable def Sym.Ar : Nat → TypeId → Nat → (Nat → Int) → Rg := Classical.choose Sym.Ar_ex
theorem Sym.Ar_eq (b : Nat) (T : TypeId) (N : Nat) (g : Nat → Int) : Sym.Ar b T N g = Rg.blk b T ((tab N g).map i64) := Classical.choose_spec Sym.Ar_ex b T N g
def Sym.upd (g : Nat → Int) (k : Nat) (x : Int) : Nat → Int := fun j => if j = k then x else g j
theorem Sym.Ar_congr {b : Nat} {T : TypeId} {N : Nat} {g h : Nat → Int} (e : ∀ k, k < N → g k = h k) : Sym.Ar b T N g = Sym.Ar b T N h := by rw [Sym.Ar_eq, Sym.Ar_eq, tab_congr e]
theorem Sym.M.arr {w0 w : World} {S : Nat → Prop} {rs : List Rg} {b N k : Nat} {T : TypeId} {g : Nat → Int} (h : M w0 S w rs) (i : Nat) (hi : rs[i]? = some (Sym.Ar b T N g)) (hk : k < N) : w.cell? ⟨b, k, none⟩ = some (i64 (g k)) :=
  h.bcell i (by rw [hi, Sym.Ar_eq]) (by rw [List.getElem?_map, tab_get hk]; rfl)
theorem Sym.tab_upd {N k : Nat} {g : Nat → Int} {x : Int} (hk : k < N) : ((tab N g).map i64).set k (i64 x) = (tab N (Sym.upd g k x)).map i64 := by
  apply List.ext_getElem?
  intro j
  by_cases hj : j < N
  · rw [List.getElem?_map, tab_get hj]
    by_cases e : k = j
    · subst e; rw [List.getElem?_set_self (by simp [tab_len]; exact hk)]; simp [Sym.upd]
    · rw [List.getElem?_set_ne e, List.getElem?_map, tab_get hj]; simp only [Option.map_some, Sym.upd, if_neg (fun h : j = k => e h.symm)]
  · rw [List.getElem?_eq_none (by simp [tab_len]; omega), List.getElem?_eq_none (by simp [tab_len]; omega)]
theorem Sym.E.storeAr {P : Program} {ops : Array Oper} {Q : Exit → Act → World → Prop} {s : St} {env : Env} {w0 w : World} {S : Nat → Prop} {rs : List Rg} {rest : List Oper} {ty : TypeId} {pos : String} {aft : Array Edge} {t T : TypeId} {x y : Operand} {b N k : Nat} {g : Nat → Int} (i : Nat) (z : Int) (hM : M w0 S w rs) (hi : rs[i]? = some (Sym.Ar b T N g)) (hx : ev env x = some (.pointer (some ⟨b, k, none⟩))) (hy : ev env y = some (i64 z)) (hs : (P.info? t).map (·.size) = some 1) (hk : k < N)
    (h : ∀ w', M w0 S w' (rs.set i (Sym.Ar b T N (Sym.upd g k z))) → wpE P ops Q s rest env w') : wpE P ops Q s (⟨none, .store t x y, ty, pos, aft, none⟩ :: rest) env w :=
  E.storeM i hM (by rw [hi, Sym.Ar_eq]) hx hy hs rfl (old := i64 (g k)) (by rw [List.getElem?_map, tab_get hk]; rfl) fun w' hM' => h w' (by rw [tab_upd hk, ← Sym.Ar_eq] at hM'; exact hM')
/-! Cost -/
def dot (a b : List Int) : Int := (List.zipWith (· * ·) a b).sum
theorem dot_snoc {a b : List Int} {i : Nat} (ha : i < a.length) (hb : i < b.length) : dot (a.take (i + 1)) (b.take (i + 1)) = dot (a.take i) (b.take i) + a[i] * b[i] := by
  unfold dot
  rw [← List.take_append_getElem ha, ← List.take_append_getElem hb, List.zipWith_append (by rw [List.length_take, List.length_take]; omega)]
  simp
theorem mul_bound {a b : Int} (ha : 0 ≤ a ∧ a ≤ 1099511627776) (hb : 0 ≤ b ∧ b ≤ 30) : 0 ≤ a * b ∧ a * b ≤ 32985348833280 := by
  refine ⟨Int.mul_nonneg ha.1 hb.1, ?_⟩
  have := Int.mul_le_mul ha.2 hb.2 hb.1 (by omega)
  omega
theorem dot_bound {a b : List Int} (ha : okr a 1099511627776 = true) (hb : okr b 30 = true) (hl : a.length = b.length) : ∀ i, i ≤ a.length → 0 ≤ dot (a.take i) (b.take i) ∧ dot (a.take i) (b.take i) ≤ 32985348833280 * (i : Int) := by
  intro i
  induction i with
  | zero => intro _; simp [dot]
  | succ i ih =>
    intro hi
    have h1 := ih (by omega)
    rw [dot_snoc (by omega) (by omega)]
    have := mul_bound (okr_iff.1 ha a[i] (List.getElem_mem _)) (okr_iff.1 hb b[i] (List.getElem_mem _))
    omega
/-- what Cost answers -/
def csv (a b : List Int) : Int × Int :=
  if 4096 < a.length ∨ 4096 < b.length then (0, 4) else if ¬ (okr a 1099511627776 = true ∧ okr b 30 = true) then (0, 3) else if a.length ≠ b.length then (0, 7) else (dot a b, 0)
end Go.Proofs.YtcmgbjmcklfkcaaDoor

/- prefix: the reference's Cost; Ints; the symbols in order. -/
namespace Go.Proofs.YtcmgbjmcklfkcaaDoor
set_option linter.unusedSimpArgs false
set_option linter.unusedVariables false
open Go.RowKit Sym

theorem Sym.M.to {w0 w : World} {S : Nat → Prop} {rs rs' : List Rg} (h : M w0 S w rs) (e : rs = rs') : M w0 S w rs' := e ▸ h
theorem Sym.E.idxN {P : Program} {ops : Array Oper} {Q : Exit → Act → World → Prop} {s : St} {env : Env} {w : World} {rest : List Oper} {ty : TypeId} {pos : String} {aft : Array Edge} {d : Nat} {t e : TypeId} {x ix : Operand} {kk : IntKind} {i n b : Nat} (hx : ev env x = some (.pointer (some ⟨b, 0, none⟩))) (hi : ev env ix = some (.int kk (i : Int)))
    (ht : P.underlying t = some (.array n e)) (hs : (P.info? e).map (·.size) = some 1) (h1 : i < n) (hd : Nat.blt d s.n = true)
    (h : wpE P ops Q s rest ((d, .pointer (some ⟨b, i, none⟩)) :: env) w) : wpE P ops Q s (⟨some d, .indexAddr t x ix, ty, pos, aft, none⟩ :: rest) env w :=
  E.idxA (sz := 1) hx hi ht hs (by omega) (by omega) hd (by rw [show 0 + ((i : Int)).toNat * 1 = i by omega]; exact h)
theorem Sym.S.idxN {P : Program} {ops : Array Oper} {Lq : Act → Prop} {s : St} {env : Env} {w : World} {rest : List Oper} {ty : TypeId} {pos : String} {aft : Array Edge} {d : Nat} {t e : TypeId} {x ix : Operand} {kk : IntKind} {i n b : Nat} (hx : ev env x = some (.pointer (some ⟨b, 0, none⟩))) (hi : ev env ix = some (.int kk (i : Int)))
    (ht : P.underlying t = some (.array n e)) (hs : (P.info? e).map (·.size) = some 1) (h1 : i < n) (hd : Nat.blt d s.n = true)
    (h : wpS P ops Lq s rest ((d, .pointer (some ⟨b, i, none⟩)) :: env) w) : wpS P ops Lq s (⟨some d, .indexAddr t x ix, ty, pos, aft, none⟩ :: rest) env w :=
  S.idxA (sz := 1) hx hi ht hs (by omega) (by omega) hd (by rw [show 0 + ((i : Int)).toNat * 1 = i by omega]; exact h)
end Go.Proofs.YtcmgbjmcklfkcaaDoor
