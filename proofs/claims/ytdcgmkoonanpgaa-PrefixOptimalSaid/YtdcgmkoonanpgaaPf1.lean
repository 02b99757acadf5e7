/- prefix: within, kraft, check, Check, Cost; the reference's. -/
import Derived.Test.YtdcgmkoonanpgaaProg
import Derived.Test.YtdcgmkoonanpgaaSymW
import Derived.Test.YtdcgmkoonanpgaaPfM
namespace Go.Proofs.Ytdcgmkoonanpgaa
set_option linter.unusedSimpArgs false
set_option linter.unusedVariables false
open Go.RowKit Sym

theorem elem_Tint : Elem Try.prog 3 1 8 := elem_of (z := .int .i64 0) (by kernel_rfl) rfl (by decide)
theorem elem_Tbool : Elem Try.prog 4 1 1 := elem_of (z := .bool false) (by kernel_rfl) rfl (by decide)
abbrev nilI : Value := .slice none 0 0
/-- numbers that are not negative -/
def nz (l : List Nat) : List Int := l.map (fun n : Nat => (n : Int))
theorem nz_len (l : List Nat) : (nz l).length = l.length := by simp [nz]
theorem nz_get {l : List Nat} {i : Nat} (h : i < l.length) : (nz l)[i]'(by rw [nz_len]; exact h) = (l[i] : Int) := by simp [nz]
/-- all of them from 0 to m -/
def okr (zs : List Int) (m : Int) : Bool := zs.all fun z => decide (0 ≤ z ∧ z ≤ m)
theorem okr_iff {zs : List Int} {m : Int} : okr zs m = true ↔ ∀ z ∈ zs, 0 ≤ z ∧ z ≤ m := by simp [okr]
theorem okr_bad {zs : List Int} {m : Int} {i : Nat} (hi : i < zs.length) (h : zs[i] < 0 ∨ m < zs[i]) : okr zs m = false := by
  cases e : okr zs m with
  | false => rfl
  | true => have := okr_iff.1 e zs[i] (List.getElem_mem hi); omega
theorem okr_take {zs : List Int} {m : Int} {i : Nat} (hi : i < zs.length) (h : okr (zs.take i) m = true) (h2 : ¬ (zs[i] < 0 ∨ m < zs[i])) : okr (zs.take (i + 1)) m = true := by
  rw [okr_iff] at *
  intro z hz
  rw [← List.take_append_getElem hi, List.mem_append, List.mem_singleton] at hz
  rcases hz with hz | rfl
  · exact h z hz
  · omega
/-- the numbers of a list, cut off at 0 -/
def toN (zs : List Int) : List Nat := zs.map Int.toNat
theorem toN_nz {zs : List Int} {m : Nat} (h : okr zs m = true) : zs = nz (toN zs) ∧ ∀ n ∈ toN zs, n ≤ m := by
  rw [okr_iff] at h
  refine ⟨?_, fun n hn => ?_⟩
  · unfold nz toN
    rw [List.map_map]
    conv => lhs; rw [← List.map_id zs]
    refine List.map_congr_left fun z hz => ?_
    have := h z hz
    show z = ((z.toNat : Nat) : Int); omega
  · obtain ⟨z, hz, rfl⟩ := List.mem_map.1 hn
    have := h z hz; omega
theorem toN_len (zs : List Int) : (toN zs).length = zs.length := by simp [toN]
theorem kr_take {l : List Nat} {i : Nat} (h : i < l.length) : Pf.kr (l.take (i + 1)) = Pf.kr (l.take i) + Pf.un l[i] := by
  rw [← List.take_append_getElem h, Pf.kr_app]; simp [Pf.kr]
theorem kr_bound (l : List Nat) (i : Nat) (h : l.length ≤ 4096) : Pf.kr (l.take i) ≤ 536870912 * 4096 := by
  have h1 := Pf.kr_le (l.take i)
  have h2 : (l.take i).length ≤ 4096 := by rw [List.length_take]; omega
  have h3 := Nat.mul_le_mul_left (2 ^ 29) h2
  omega
theorem un_shr {n : Nat} (h0 : 0 < n) (h : n ≤ 30) : (1073741824 : Int) / 2 ^ min ((n : Int)).toNat IntKind.i64.bits = (Pf.un n : Int) := by
  have e : min ((n : Int)).toNat IntKind.i64.bits = n := by rw [Int.toNat_natCast]; simp [IntKind.bits]; omega
  rw [e, Pf.un, if_neg (by omega)]
  have : (1073741824 : Int) = ((2 ^ 30 : Nat) : Int) := by decide
  rw [this]
  have h2 : ((2 : Int) ^ n) = ((2 ^ n : Nat) : Int) := by simp
  rw [h2, ← Int.natCast_ediv, Nat.pow_div h (by decide)]
theorem un_shl {n : Nat} (h0 : 0 < n) (h : n ≤ 30) : IntKind.i64.wrap ((1 : Int) * 2 ^ min (((30 - n : Nat) : Int)).toNat IntKind.i64.bits) = (Pf.un n : Int) := by
  have e : min (((30 - n : Nat) : Int)).toNat IntKind.i64.bits = 30 - n := by rw [Int.toNat_natCast]; simp [IntKind.bits]; omega
  have h1 := Pf.un_le n
  rw [e, Int.one_mul]
  have h2 : ((2 : Int) ^ (30 - n)) = (Pf.un n : Int) := by rw [Pf.un, if_neg (by omega)]; simp
  rw [h2]; exact IntWalk.i64_in _ (by omega)
/-- what the checks of a code's lengths answer -/
def ckv (zs : List Int) : Int := if 4096 < zs.length then 4 else if okr zs 30 = true then (if 1073741824 < Pf.kr (toN zs) then 27 else 0) else 3
theorem within_ret (p : Value) (zs : List Int) (m : Int) (w : World) (hr : RdL i64 w p zs) :
    Ret Try.prog 56 #[p, i64 m] w fun v w' => v = i64 (if 4096 < zs.length then 4 else if okr zs m = true then 0 else 3) ∧ Ext w w' := by
  have hM := M.start w
  refine enter Try.func56 rfl (by kernel_rfl) Try.ntmps56 rfl ?_
  refine C.seq <| C.region <| E.asg rfl rfl <| E.nil <| X.next <| C.seq <| C.seq <| C.region <| E.mv rfl rfl <| ?_
  refine E.lenv rfl (Rd.shape (by first | exact hM.sl 0 rfl | exact hM.sl 1 rfl | exact hM.sl 2 rfl | exact hM.arg0 (by assumption) | exact hM.arg (by assumption) (by assumption) | assumption)) Try.underlying67 rfl ?_
  refine E.bin rfl rfl rfl rfl <| E.nil <| X.next <| ?_
  refine C.cond' rfl (fun hC0 => ?_) (fun hC0 => ?_)
  ·
    refine C.seq <| C.region <| E.asg rfl rfl <| E.nil <| X.next <| C.ret <| X.retT <| ret1 rfl rfl ?_
    exact ⟨by rw [if_pos (by omega)], hM.toExt⟩
  ·
    refine C.skip <| X.next <| C.seq <| C.seq <| C.region <| E.mv rfl rfl <| ?_
    refine E.lenv rfl (Rd.shape (by first | exact hM.sl 0 rfl | exact hM.sl 1 rfl | exact hM.sl 2 rfl | exact hM.arg0 (by assumption) | exact hM.arg (by assumption) (by assumption) | assumption)) Try.underlying67 rfl ?_
    refine E.mv rfl rfl <| E.nil <| X.next <| C.block <| ?_

    refine C.loop1 [(1, _), (10, _), (11, _)] rfl (fun (i : Nat) => [(12, i64 i)]) (fun (i : Nat) w' => M w (Nn) w' [] ∧ i ≤ zs.length ∧ okr (zs.take i) m = true) (fun (i : Nat) => zs.length - i) 0 ?_ ?_ ?_
    · exact Sub.cons rfl <| Sub.nil _
    · exact ⟨hM, Nat.zero_le _, rfl⟩
    rintro i w0 ⟨hM, hi, ho⟩
    refine C.seq <| C.region <| E.bin rfl rfl rfl rfl <| E.nil <| X.next <| C.seq <| ?_
    refine C.cond' rfl (fun hC1 => ?_) (fun hC1 => ?_)
    ·
      have hi' : i < zs.length := by omega
      refine C.skip <| X.next <| C.seq <| C.block <| C.seq <| C.region <| ?_
      refine E.get (k := _) rfl rfl (by first | exact hM.sl 0 rfl | exact hM.sl 1 rfl | exact hM.sl 2 rfl | exact hM.arg0 (by assumption) | exact hM.arg (by assumption) (by assumption) | assumption) rfl (by first | omega | (simp only [List.length_replicate, List.length_append, List.length_set, List.length_cons, List.length_nil, List.length_map, List.length_range, List.length_take, List.length_drop, List.length_zipWith] at *; omega)) Try.underlying67 (by kernel_rfl) Try.underlying3 rfl rfl rfl ?_
      refine E.asg rfl rfl <| E.nil <| X.next <| ?_

      refine C.chainE [(1, _), (10, _), (11, _), (12, _)] rfl [(22, .bool (decide (zs[i] < 0 ∨ m < zs[i])))] ?_ ?_
      ·
        refine C.region <| E.mv rfl rfl <| E.bin rfl rfl rfl rfl <| E.mv rfl rfl <| ?_
        refine E.split 18 rfl (fun g18 => ?_) (fun g18 => ?_)
        ·
          try simp only [decide_eq_true_eq, decide_eq_false_iff_not, ne_eq, Decidable.not_not, Bool.not_eq_true', Bool.not_eq_false'] at g18
          refine E.off rfl rfl rfl rfl <| E.off rfl rfl rfl rfl <| E.off rfl rfl rfl rfl <| E.pick rfl rfl rfl <| E.nil <| X.join0 (Sub.cons (by (first | exact leaf_f (by omega) | exact leaf_t (by omega) | exact leaf_d (by omega) | exact leaf_f (by first | (simp [*] <;> fail) | omega) | exact leaf_t (by first | (simp [*] <;> fail) | omega) | exact leaf_d (by first | (simp [*] <;> fail) | omega) | exact leaf_f (by (first | omega | ((try simp only [decide_eq_true_eq, decide_eq_false_iff_not, Bool.not_eq_true', Bool.not_eq_false'] at *); first | omega | (simp_all <;> fail) | (simp_all; omega)))) | exact leaf_t (by (first | omega | ((try simp only [decide_eq_true_eq, decide_eq_false_iff_not, Bool.not_eq_true', Bool.not_eq_false'] at *); first | omega | (simp_all <;> fail) | (simp_all; omega)))) | exact leaf_d (by (first | omega | ((try simp only [decide_eq_true_eq, decide_eq_false_iff_not, Bool.not_eq_true', Bool.not_eq_false'] at *); first | omega | (simp_all <;> fail) | (simp_all; omega)))))) <| Sub.nil _) rfl rfl
        ·
          try simp only [decide_eq_true_eq, decide_eq_false_iff_not, ne_eq, Decidable.not_not, Bool.not_eq_true', Bool.not_eq_false'] at g18
          refine E.on rfl rfl (E.mv rfl rfl ?_)
          refine E.on rfl rfl (E.mv rfl rfl ?_)
          refine E.on rfl rfl (E.bin rfl rfl rfl rfl ?_)
          refine E.pick rfl rfl rfl <| E.nil <| X.join0 (Sub.cons (by (first | exact leaf_f (by omega) | exact leaf_t (by omega) | exact leaf_d (by omega) | exact leaf_f (by first | (simp [*] <;> fail) | omega) | exact leaf_t (by first | (simp [*] <;> fail) | omega) | exact leaf_d (by first | (simp [*] <;> fail) | omega) | exact leaf_f (by (first | omega | ((try simp only [decide_eq_true_eq, decide_eq_false_iff_not, Bool.not_eq_true', Bool.not_eq_false'] at *); first | omega | (simp_all <;> fail) | (simp_all; omega)))) | exact leaf_t (by (first | omega | ((try simp only [decide_eq_true_eq, decide_eq_false_iff_not, Bool.not_eq_true', Bool.not_eq_false'] at *); first | omega | (simp_all <;> fail) | (simp_all; omega)))) | exact leaf_d (by (first | omega | ((try simp only [decide_eq_true_eq, decide_eq_false_iff_not, Bool.not_eq_true', Bool.not_eq_false'] at *); first | omega | (simp_all <;> fail) | (simp_all; omega)))))) <| Sub.nil _) rfl rfl
      refine C.cond' rfl (fun hC2 => ?_) (fun hC2 => ?_)
      ·
        refine C.seq <| C.region <| E.asg rfl rfl <| E.nil <| X.next <| C.ret <| X.retB <| X.retT <| X.retT <| X.retB <| X.retT <| ret1 rfl rfl ?_
        exact ⟨by rw [if_neg (by omega), okr_bad hi' hC2]; rfl, hM.toExt⟩
      ·
        refine C.skip <| X.outN <| X.next <| C.region <| ?_
        refine E.add rfl rfl (by omega) rfl ?_

        refine E.mv rfl rfl <| E.nil <| X.again1 (i + 1) (Sub.cons rfl <| Sub.nil _) rfl ⟨hM, by omega, okr_take hi' ho hC2⟩ (by omega)
    ·
      rw [List.take_of_length_le (by omega)] at ho
      refine C.exit <| X.exitT <| X.exitT <| X.outE <| X.next <| C.seq <| C.region <| E.asg rfl rfl <| E.nil <| X.next <| C.ret <| ret1 rfl rfl ?_
      exact ⟨by rw [if_neg (by omega), if_pos ho], hM.toExt⟩

theorem right_ret (p : Value) (zs : List Int) (m : Int) (w : World) (hr : RdL i64 w p zs) :
    Ret Try.prog 64 #[p, i64 m] w fun v w' => v = i64 (if okr zs m = true then 0 else 3) ∧ Ext w w' := by
  have hM := M.start w
  refine enter Try.func64 rfl (by kernel_rfl) Try.ntmps64 rfl ?_
  refine C.seq <| C.region <| E.asg rfl rfl <| E.nil <| X.next <| C.seq <| C.seq <| C.region <| E.asg rfl rfl <| E.nil <| X.next <| C.block <| ?_
  have hle := Rd.le hr

  refine C.loop1 [(0, _), (1, _)] rfl (fun (i : Nat) => [(5, i64 i)]) (fun (i : Nat) w' => M w (Nn) w' [] ∧ i ≤ zs.length ∧ okr (zs.take i) m = true) (fun (i : Nat) => zs.length - i) 0 ?_ ?_ ?_
  · exact Sub.cons rfl <| Sub.nil _
  · exact ⟨hM, Nat.zero_le _, rfl⟩
  rintro i w0 ⟨hM, hi, ho⟩
  refine C.seq <| C.seq <| C.region <| E.mv rfl rfl <| E.mv rfl rfl <| ?_
  refine E.lenv rfl (Rd.shape (by first | exact hM.sl 0 rfl | exact hM.sl 1 rfl | exact hM.sl 2 rfl | exact hM.arg0 (by assumption) | exact hM.arg (by assumption) (by assumption) | assumption)) Try.underlying67 rfl ?_
  refine E.bin rfl rfl rfl rfl <| E.nil <| X.next <| ?_
  refine C.cond' rfl (fun hC0 => ?_) (fun hC0 => ?_)
  ·
    have hi' : i < zs.length := by omega
    refine C.skip <| X.next <| C.seq <| C.block <| ?_

    refine C.chainE [(0, _), (1, _), (5, _)] rfl [(24, .bool (decide (zs[i] < 0 ∨ m < zs[i])))] ?_ ?_
    ·
      refine C.region <| E.mv rfl rfl <| E.mv rfl rfl <| ?_
      refine E.get (k := _) rfl rfl (by first | exact hM.sl 0 rfl | exact hM.sl 1 rfl | exact hM.sl 2 rfl | exact hM.arg0 (by assumption) | exact hM.arg (by assumption) (by assumption) | assumption) rfl (by first | omega | (simp only [List.length_replicate, List.length_append, List.length_set, List.length_cons, List.length_nil, List.length_map, List.length_range, List.length_take, List.length_drop, List.length_zipWith] at *; omega)) Try.underlying67 (by kernel_rfl) Try.underlying3 rfl rfl rfl ?_
      refine E.bin rfl rfl rfl rfl <| E.mv rfl rfl <| ?_
      refine E.split 17 rfl (fun g17 => ?_) (fun g17 => ?_)
      ·
        try simp only [decide_eq_true_eq, decide_eq_false_iff_not, ne_eq, Decidable.not_not, Bool.not_eq_true', Bool.not_eq_false'] at g17
        refine E.off rfl rfl rfl rfl <| E.off rfl rfl rfl rfl <| E.off rfl rfl rfl rfl <| E.off rfl rfl rfl rfl <| E.off rfl rfl rfl rfl <| E.off rfl rfl rfl rfl <| E.pick rfl rfl rfl <| E.nil <| X.join0 (Sub.cons (by (first | exact leaf_f (by omega) | exact leaf_t (by omega) | exact leaf_d (by omega) | exact leaf_f (by first | (simp [*] <;> fail) | omega) | exact leaf_t (by first | (simp [*] <;> fail) | omega) | exact leaf_d (by first | (simp [*] <;> fail) | omega) | exact leaf_f (by (first | omega | ((try simp only [decide_eq_true_eq, decide_eq_false_iff_not, Bool.not_eq_true', Bool.not_eq_false'] at *); first | omega | (simp_all <;> fail) | (simp_all; omega)))) | exact leaf_t (by (first | omega | ((try simp only [decide_eq_true_eq, decide_eq_false_iff_not, Bool.not_eq_true', Bool.not_eq_false'] at *); first | omega | (simp_all <;> fail) | (simp_all; omega)))) | exact leaf_d (by (first | omega | ((try simp only [decide_eq_true_eq, decide_eq_false_iff_not, Bool.not_eq_true', Bool.not_eq_false'] at *); first | omega | (simp_all <;> fail) | (simp_all; omega)))))) <| Sub.nil _) rfl rfl
      ·
        try simp only [decide_eq_true_eq, decide_eq_false_iff_not, ne_eq, Decidable.not_not, Bool.not_eq_true', Bool.not_eq_false'] at g17
        refine E.on rfl rfl (E.mv rfl rfl ?_)
        refine E.on rfl rfl (E.mv rfl rfl ?_)
        refine E.on rfl rfl (E.idx1 (k := _) rfl rfl (by first | exact hM.sl 0 rfl | exact hM.sl 1 rfl | exact hM.sl 2 rfl | exact hM.arg0 (by assumption) | exact hM.arg (by assumption) (by assumption) | assumption) rfl (by first | omega | (simp only [List.length_replicate, List.length_append, List.length_set, List.length_cons, List.length_nil, List.length_map, List.length_range, List.length_take, List.length_drop, List.length_zipWith] at *; omega)) Try.underlying67 (by kernel_rfl) rfl ?_)
        refine E.on rfl rfl (E.load rfl Try.underlying3 rfl (by first | exact (hM.sl 0 rfl).cellA rfl (by first | omega | (simp only [List.length_replicate, List.length_append, List.length_set, List.length_cons, List.length_nil, List.length_map, List.length_range, List.length_take, List.length_drop, List.length_zipWith] at *; omega)) | exact (hM.sl 1 rfl).cellA rfl (by first | omega | (simp only [List.length_replicate, List.length_append, List.length_set, List.length_cons, List.length_nil, List.length_map, List.length_range, List.length_take, List.length_drop, List.length_zipWith] at *; omega)) | exact (hM.sl 2 rfl).cellA rfl (by first | omega | (simp only [List.length_replicate, List.length_append, List.length_set, List.length_cons, List.length_nil, List.length_map, List.length_range, List.length_take, List.length_drop, List.length_zipWith] at *; omega)) | exact (hM.arg0 (by assumption)).cellA rfl (by first | omega | (simp only [List.length_replicate, List.length_append, List.length_set, List.length_cons, List.length_nil, List.length_map, List.length_range, List.length_take, List.length_drop, List.length_zipWith] at *; omega)) | exact (hM.arg (by assumption) (by assumption)).cellA rfl (by first | omega | (simp only [List.length_replicate, List.length_append, List.length_set, List.length_cons, List.length_nil, List.length_map, List.length_range, List.length_take, List.length_drop, List.length_zipWith] at *; omega))) rfl ?_)
        refine E.on rfl rfl (E.mv rfl rfl ?_)
        refine E.on rfl rfl (E.bin rfl rfl rfl rfl ?_)
        refine E.pick rfl rfl rfl <| E.nil <| X.join0 (Sub.cons (by (first | exact leaf_f (by omega) | exact leaf_t (by omega) | exact leaf_d (by omega) | exact leaf_f (by first | (simp [*] <;> fail) | omega) | exact leaf_t (by first | (simp [*] <;> fail) | omega) | exact leaf_d (by first | (simp [*] <;> fail) | omega) | exact leaf_f (by (first | omega | ((try simp only [decide_eq_true_eq, decide_eq_false_iff_not, Bool.not_eq_true', Bool.not_eq_false'] at *); first | omega | (simp_all <;> fail) | (simp_all; omega)))) | exact leaf_t (by (first | omega | ((try simp only [decide_eq_true_eq, decide_eq_false_iff_not, Bool.not_eq_true', Bool.not_eq_false'] at *); first | omega | (simp_all <;> fail) | (simp_all; omega)))) | exact leaf_d (by (first | omega | ((try simp only [decide_eq_true_eq, decide_eq_false_iff_not, Bool.not_eq_true', Bool.not_eq_false'] at *); first | omega | (simp_all <;> fail) | (simp_all; omega)))))) <| Sub.nil _) rfl rfl
    refine C.cond' rfl (fun hC1 => ?_) (fun hC1 => ?_)
    ·
      refine C.seq <| C.region <| E.asg rfl rfl <| E.nil <| X.next <| C.ret <| X.retB <| X.retT <| X.retT <| X.retB <| X.retT <| ret1 rfl rfl ?_
      exact ⟨by rw [okr_bad hi' hC1]; rfl, hM.toExt⟩
    ·
      refine C.skip <| X.outN <| X.next <| C.region <| E.mv rfl rfl <| ?_
      refine E.add rfl rfl (by omega) rfl ?_

      refine E.asg rfl rfl <| E.nil <| X.again1 (i + 1) (Sub.cons rfl <| Sub.nil _) rfl ⟨hM, by omega, okr_take hi' ho hC1⟩ (by omega)
  ·
    rw [List.take_of_length_le (by omega)] at ho
    refine C.exit <| X.exitT <| X.exitT <| X.outE <| X.next <| C.seq <| C.region <| E.asg rfl rfl <| E.nil <| X.next <| C.ret <| ret1 rfl rfl ?_
    exact ⟨by rw [if_pos ho], hM.toExt⟩

theorem kraft_ret (p : Value) (l : List Nat) (w : World) (hr : RdL i64 w p (nz l)) (hb : ∀ n ∈ l, n ≤ 30) (hlen : l.length ≤ 4096) :
    Ret Try.prog 70 #[p] w fun v w' => v = i64 (Pf.kr l : Int) ∧ Ext w w' := by
  have hM := M.start w
  refine enter Try.func70 rfl (by kernel_rfl) Try.ntmps70 rfl ?_
  refine C.seq <| C.region <| E.asg rfl rfl <| E.nil <| X.next <| C.seq <| C.region <| E.asg rfl rfl <| E.nil <| X.next <| C.seq <| C.seq <| C.region <| E.mv rfl rfl <| ?_
  refine E.lenv rfl (Rd.shape (by first | exact hM.sl 0 rfl | exact hM.sl 1 rfl | exact hM.sl 2 rfl | exact hM.arg0 (by assumption) | exact hM.arg (by assumption) (by assumption) | assumption)) Try.underlying67 rfl ?_
  refine E.mv rfl rfl <| E.nil <| X.next <| C.block <| ?_
  have hnl := nz_len l

  refine C.loop1 [(6, _), (7, _)] rfl (fun (i : Nat) => [(3, i64 (Pf.kr (l.take i) : Int)), (8, i64 i)]) (fun (i : Nat) w' => M w (Nn) w' [] ∧ i ≤ l.length) (fun (i : Nat) => l.length - i) 0 ?_ ?_ ?_
  · exact Sub.cons rfl <| Sub.cons rfl <| Sub.nil _
  · exact ⟨hM, Nat.zero_le _⟩
  rintro i w0 ⟨hM, hi⟩
  refine C.seq <| C.region <| E.bin rfl rfl rfl rfl <| E.nil <| X.next <| C.seq <| ?_
  refine C.cond' rfl (fun hC0 => ?_) (fun hC0 => ?_)
  ·
    have hi' : i < l.length := by omega
    have hbi := hb l[i] (List.getElem_mem hi')
    have hkt := kr_take hi'
    have hkb := kr_bound l i hlen
    have hul := Pf.un_le l[i]
    refine C.skip <| X.next <| ?_

    refine C.cut0 [(6, _), (7, _), (8, _)] rfl [(3, i64 (Pf.kr (l.take (i + 1)) : Int))] (fun w' => M w (Nn) w' []) ?_ ?_
    ·
      refine C.block <| C.seq <| C.region <| ?_
      refine E.get (k := i) rfl rfl (hM.arg0 hr) rfl (by omega) Try.underlying67 (by kernel_rfl) Try.underlying3 rfl rfl rfl ?_
      rw [nz_get hi']
      refine E.asg rfl rfl <| E.nil <| X.next <| C.seq <| C.region <| E.mv rfl rfl <| E.bin rfl rfl rfl rfl <| E.nil <| X.next <| ?_
      refine C.cond' rfl (fun hC1 => ?_) (fun hC1 => ?_)
      ·
        refine C.region <| E.mv rfl rfl <| E.mv rfl rfl <| ?_
        refine E.shr rfl rfl (by omega) (un_shr (by omega) hbi) rfl ?_
        refine E.addN rfl rfl (by first | omega | (simp only [List.length_replicate, List.length_append, List.length_set, List.length_cons, List.length_nil, List.length_map, List.length_range, List.length_take, List.length_drop, List.length_zipWith] at *; omega)) rfl ?_

        refine E.asg rfl rfl <| E.nil <| X.outN <| X.join0  (Sub.cons (look_val rfl (by rw [hkt])) <| Sub.nil _) rfl hM
      ·

        refine C.skip <| X.outN <| X.join0  (Sub.cons (look_val rfl (by rw [hkt, Pf.un, if_pos (by omega)]; rfl)) <| Sub.nil _) rfl hM
    rintro  w1 hM
    refine C.region <| ?_
    refine E.add rfl rfl (by omega) rfl ?_

    refine E.mv rfl rfl <| E.nil <| X.again1 (i + 1) (Sub.cons rfl <| Sub.cons rfl <| Sub.nil _) rfl ⟨hM, by omega⟩ (by omega)
  ·
    obtain rfl : i = l.length := by omega
    rw [List.take_length]
    refine C.exit <| X.exitT <| X.exitT <| X.outE <| X.next <| C.seq <| C.region <| E.mv rfl rfl <| E.asg rfl rfl <| E.nil <| X.next <| C.ret <| ret1 rfl rfl ?_
    exact ⟨rfl, hM.toExt⟩

theorem rKraft_ret (p : Value) (l : List Nat) (w : World) (hr : RdL i64 w p (nz l)) (hb : ∀ n ∈ l, n ≤ 30) (hlen : l.length ≤ 4096) :
    Ret Try.prog 47 #[p] w fun v w' => v = i64 (Pf.kr l : Int) ∧ Ext w w' := by
  have hM := M.start w
  refine enter Try.func47 rfl (by kernel_rfl) Try.ntmps47 rfl ?_
  refine C.seq <| C.region <| E.asg rfl rfl <| E.nil <| X.next <| C.seq <| C.region <| E.asg rfl rfl <| E.nil <| X.next <| C.seq <| C.seq <| C.region <| E.asg rfl rfl <| E.nil <| X.next <| C.block <| ?_
  have hnl := nz_len l

  refine C.loop1 [(0, _)] rfl (fun (i : Nat) => [(3, i64 (Pf.kr (l.take i) : Int)), (4, i64 i)]) (fun (i : Nat) w' => M w (Nn) w' [] ∧ i ≤ l.length) (fun (i : Nat) => l.length - i) 0 ?_ ?_ ?_
  · exact Sub.cons rfl <| Sub.cons rfl <| Sub.nil _
  · exact ⟨hM, Nat.zero_le _⟩
  rintro i w0 ⟨hM, hi⟩
  refine C.seq <| C.seq <| C.region <| E.mv rfl rfl <| E.mv rfl rfl <| ?_
  refine E.lenv rfl (Rd.shape (by first | exact hM.sl 0 rfl | exact hM.sl 1 rfl | exact hM.sl 2 rfl | exact hM.arg0 (by assumption) | exact hM.arg (by assumption) (by assumption) | assumption)) Try.underlying67 rfl ?_
  refine E.bin rfl rfl rfl rfl <| E.nil <| X.next <| ?_
  refine C.cond' rfl (fun hC0 => ?_) (fun hC0 => ?_)
  ·
    have hi' : i < l.length := by omega
    have hbi := hb l[i] (List.getElem_mem hi')
    have hkt := kr_take hi'
    have hkb := kr_bound l i hlen
    have hul := Pf.un_le l[i]
    refine C.skip <| X.next <| ?_

    refine C.cut0 [(0, _), (4, _)] rfl [(3, i64 (Pf.kr (l.take (i + 1)) : Int))] (fun w' => M w (Nn) w' []) ?_ ?_
    ·
      refine C.block <| C.seq <| C.region <| E.mv rfl rfl <| E.mv rfl rfl <| ?_
      refine E.get (k := i) rfl rfl (hM.arg0 hr) rfl (by omega) Try.underlying67 (by kernel_rfl) Try.underlying3 rfl rfl rfl ?_
      rw [nz_get hi']
      refine E.bin rfl rfl rfl rfl <| E.nil <| X.next <| ?_
      refine C.cond' rfl (fun hC1 => ?_) (fun hC1 => ?_)
      ·
        refine C.region <| E.mv rfl rfl <| E.mv rfl rfl <| E.mv rfl rfl <| ?_
        refine E.get (k := i) rfl rfl (hM.arg0 hr) rfl (by omega) Try.underlying67 (by kernel_rfl) Try.underlying3 rfl rfl rfl ?_
        rw [nz_get hi']
        refine E.subN (a := 30) (b := l[i]) rfl rfl (by omega) rfl ?_
        refine E.conv rfl Try.underlying3 Try.underlying87 (IntWalk.u64_in _ (by omega)) rfl ?_
        refine E.shl rfl rfl (by omega) (un_shl (by omega) hbi) rfl ?_
        refine E.addN rfl rfl (by first | omega | (simp only [List.length_replicate, List.length_append, List.length_set, List.length_cons, List.length_nil, List.length_map, List.length_range, List.length_take, List.length_drop, List.length_zipWith] at *; omega)) rfl ?_

        refine E.asg rfl rfl <| E.nil <| X.outN <| X.join0  (Sub.cons (look_val rfl (by rw [hkt])) <| Sub.nil _) rfl hM
      ·

        refine C.skip <| X.outN <| X.join0  (Sub.cons (look_val rfl (by rw [hkt, Pf.un, if_pos (by omega)]; rfl)) <| Sub.nil _) rfl hM
    rintro  w1 hM
    refine C.region <| E.mv rfl rfl <| ?_
    refine E.add rfl rfl (by omega) rfl ?_

    refine E.asg rfl rfl <| E.nil <| X.again1 (i + 1) (Sub.cons rfl <| Sub.cons rfl <| Sub.nil _) rfl ⟨hM, by omega⟩ (by omega)
  ·
    obtain rfl : i = l.length := by omega
    rw [List.take_length]
    refine C.exit <| X.exitT <| X.exitT <| X.outE <| X.next <| C.seq <| C.region <| E.mv rfl rfl <| E.asg rfl rfl <| E.nil <| X.next <| C.ret <| ret1 rfl rfl ?_
    exact ⟨rfl, hM.toExt⟩

theorem ok_kr {w : World} {p : Value} {zs : List Int} (hr : RdL i64 w p zs) (h : okr zs 30 = true) : RdL i64 w p (nz (toN zs)) ∧ ∀ n ∈ toN zs, n ≤ 30 := by
  obtain ⟨h1, h2⟩ := toN_nz (m := 30) h
  exact ⟨by rw [← h1]; exact hr, h2⟩
theorem wt_ok {zs : List Int} {m : Int} (h : (if 4096 < zs.length then (4 : Int) else if okr zs m = true then 0 else 3) = 0) : zs.length ≤ 4096 ∧ okr zs m = true := by
  split at h
  · omega
  · split at h
    · exact ⟨by omega, by assumption⟩
    · omega
theorem check_ret (p : Value) (zs : List Int) (w : World) (hr : RdL i64 w p zs) :
    Ret Try.prog 67 #[p] w fun v w' => v = i64 (ckv zs) ∧ Ext w w' := by
  have hM := M.start w
  refine enter Try.func67 rfl (by kernel_rfl) Try.ntmps67 rfl ?_
  refine C.seq <| C.region <| E.asg rfl rfl <| E.nil <| X.next <| C.seq <| C.seq <| C.region <| E.mv rfl rfl <| ?_
  refine E.call rfl rfl (within_ret p zs 30 _ (hM.arg0 hr)) ?_
  rintro _ w1 ⟨rfl, x1⟩
  have hM := hM.ext x1
  try dsimp only [List.nil_append, List.cons_append, List.set_cons_zero, List.set_cons_succ, repl] at hM
  refine E.asg rfl rfl <| E.nil <| X.next <| C.seq <| C.region <| E.mv rfl rfl <| E.bin rfl rfl rfl rfl <| E.nil <| X.next <| ?_
  refine C.cond' rfl (fun hC0 => ?_) (fun hC0 => ?_)
  ·
    refine C.seq <| C.region <| E.mv rfl rfl <| E.asg rfl rfl <| E.nil <| X.next <| C.ret <| X.retT <| ret1 rfl rfl ?_
    exact ⟨by unfold ckv; congr 1; split; rfl; split; rename_i h1 h2; exact (hC0 (by rw [if_neg h1, if_pos h2])).elim; rfl, hM.toExt⟩
  ·
    obtain ⟨hl4, hok⟩ := wt_ok (Decidable.byContradiction hC0)
    have hkb := kr_bound (toN zs) (toN zs).length (by rw [toN_len]; exact hl4)
    rw [List.take_length] at hkb
    refine C.skip <| X.next <| C.seq <| C.seq <| C.region <| E.mv rfl rfl <| ?_
    refine E.call rfl rfl (kraft_ret p (toN zs) _ (ok_kr (hM.arg0 hr) hok).1 (ok_kr (hM.arg0 hr) hok).2 (by rw [toN_len]; exact hl4)) ?_
    rintro _ w2 ⟨rfl, x2⟩
    have hM := hM.ext x2
    try dsimp only [List.nil_append, List.cons_append, List.set_cons_zero, List.set_cons_succ, repl] at hM
    refine E.bin rfl rfl rfl rfl <| E.nil <| X.next <| ?_
    refine C.cond' rfl (fun hC1 => ?_) (fun hC1 => ?_)
    ·
      refine C.seq <| C.region <| E.asg rfl rfl <| E.nil <| X.next <| C.ret <| X.retT <| ret1 rfl rfl ?_
      exact ⟨by rw [ckv, if_neg (by omega), if_pos hok, if_pos (by omega)], hM.toExt⟩
    ·
      refine C.skip <| X.next <| C.seq <| C.region <| E.asg rfl rfl <| E.nil <| X.next <| C.ret <| ret1 rfl rfl ?_
      exact ⟨by rw [ckv, if_neg (by omega), if_pos hok, if_neg (by omega)], hM.toExt⟩

theorem rcheck_ret (p : Value) (zs : List Int) (w : World) (hr : RdL i64 w p zs) :
    Ret Try.prog 69 #[p] w fun v w' => v = i64 (if 4096 < zs.length then 4 else if okr zs 30 = true then 0 else 3) ∧ Ext w w' := by
  have hM := M.start w
  refine enter Try.func69 rfl (by kernel_rfl) Try.ntmps69 rfl ?_
  refine C.seq <| C.region <| E.asg rfl rfl <| E.nil <| X.next <| C.seq <| C.seq <| C.region <| E.mv rfl rfl <| ?_
  refine E.lenv rfl (Rd.shape (by first | exact hM.sl 0 rfl | exact hM.sl 1 rfl | exact hM.sl 2 rfl | exact hM.arg0 (by assumption) | exact hM.arg (by assumption) (by assumption) | assumption)) Try.underlying67 rfl ?_
  refine E.bin rfl rfl rfl rfl <| E.nil <| X.next <| ?_
  refine C.cond' rfl (fun hC0 => ?_) (fun hC0 => ?_)
  ·
    refine C.seq <| C.region <| E.asg rfl rfl <| E.nil <| X.next <| C.ret <| X.retT <| ret1 rfl rfl ?_
    exact ⟨by rw [if_pos (by omega)], hM.toExt⟩
  ·
    refine C.skip <| X.next <| C.seq <| C.region <| E.mv rfl rfl <| ?_
    refine E.call rfl rfl (right_ret p zs 30 _ (hM.arg0 hr)) ?_
    rintro _ w1 ⟨rfl, x1⟩
    have hM := hM.ext x1
    try dsimp only [List.nil_append, List.cons_append, List.set_cons_zero, List.set_cons_succ, repl] at hM
    refine E.asg rfl rfl <| E.nil <| X.next <| C.ret <| ret1 rfl rfl ?_
    exact ⟨by rw [if_neg (show ¬ 4096 < zs.length by omega)], hM.toExt⟩

/-- what Check answers -/
def chv (zs : List Int) : Int := if 4096 < zs.length then 4 else if okr zs 30 = true then (if Pf.kr (toN zs) = 0 then 5 else if Pf.kr (toN zs) = 1073741824 then 0 else 27) else 3
theorem Check_ret (p : Value) (zs : List Int) (w : World) (hr : RdL i64 w p zs) :
    Ret Try.prog 40 #[p] w fun v w' => v = i64 (chv zs) ∧ Ext w w' := by
  have hM := M.start w
  refine enter Try.func40 rfl (by kernel_rfl) Try.ntmps40 rfl ?_
  refine C.seq <| C.region <| E.asg rfl rfl <| E.nil <| X.next <| C.seq <| C.seq <| C.region <| E.mv rfl rfl <| ?_
  refine E.call rfl rfl (within_ret p zs 30 _ (hM.arg0 hr)) ?_
  rintro _ w1 ⟨rfl, x1⟩
  have hM := hM.ext x1
  try dsimp only [List.nil_append, List.cons_append, List.set_cons_zero, List.set_cons_succ, repl] at hM
  refine E.asg rfl rfl <| E.nil <| X.next <| C.seq <| C.region <| E.mv rfl rfl <| E.bin rfl rfl rfl rfl <| E.nil <| X.next <| ?_
  refine C.cond' rfl (fun hC0 => ?_) (fun hC0 => ?_)
  ·
    refine C.seq <| C.region <| E.mv rfl rfl <| E.asg rfl rfl <| E.nil <| X.next <| C.ret <| X.retT <| ret1 rfl rfl ?_
    exact ⟨by unfold chv; congr 1; split; rfl; split; rename_i h1 h2; exact (hC0 (by rw [if_neg h1, if_pos h2])).elim; rfl, hM.toExt⟩
  ·
    obtain ⟨hl4, hok⟩ := wt_ok (Decidable.byContradiction hC0)
    have hkb := kr_bound (toN zs) (toN zs).length (by rw [toN_len]; exact hl4)
    rw [List.take_length] at hkb
    refine C.skip <| X.next <| C.seq <| C.seq <| C.region <| E.mv rfl rfl <| ?_
    refine E.call rfl rfl (kraft_ret p (toN zs) _ (ok_kr (hM.arg0 hr) hok).1 (ok_kr (hM.arg0 hr) hok).2 (by rw [toN_len]; exact hl4)) ?_
    rintro _ w2 ⟨rfl, x2⟩
    have hM := hM.ext x2
    try dsimp only [List.nil_append, List.cons_append, List.set_cons_zero, List.set_cons_succ, repl] at hM
    refine E.nil <| X.next <| C.block <| C.seq <| C.region <| E.bin rfl rfl rfl rfl <| E.asg rfl rfl <| E.nil <| X.next <| ?_
    refine C.cond' rfl (fun hC1 => ?_) (fun hC1 => ?_)
    ·
      refine C.seq <| C.region <| E.asg rfl rfl <| E.nil <| X.next <| C.ret <| X.retB <| X.retT <| ret1 rfl rfl ?_
      exact ⟨by rw [chv, if_neg (show ¬ 4096 < zs.length by omega), if_pos hok]; first | (rw [if_pos (show Pf.kr (toN zs) = 0 by omega)]) | (rw [if_neg (show ¬ Pf.kr (toN zs) = 0 by omega), if_pos (show Pf.kr (toN zs) = 1073741824 by omega)]) | rw [if_neg (show ¬ Pf.kr (toN zs) = 0 by omega), if_neg (show ¬ Pf.kr (toN zs) = 1073741824 by omega)], hM.toExt⟩
    ·
      refine C.seq <| C.region <| E.bin rfl rfl rfl rfl <| E.asg rfl rfl <| E.nil <| X.next <| ?_
      refine C.cond' rfl (fun hC2 => ?_) (fun hC2 => ?_)
      ·
        refine C.seq <| C.region <| E.asg rfl rfl <| E.nil <| X.next <| C.ret <| X.retB <| X.retT <| ret1 rfl rfl ?_
        exact ⟨by rw [chv, if_neg (show ¬ 4096 < zs.length by omega), if_pos hok]; first | (rw [if_pos (show Pf.kr (toN zs) = 0 by omega)]) | (rw [if_neg (show ¬ Pf.kr (toN zs) = 0 by omega), if_pos (show Pf.kr (toN zs) = 1073741824 by omega)]) | rw [if_neg (show ¬ Pf.kr (toN zs) = 0 by omega), if_neg (show ¬ Pf.kr (toN zs) = 1073741824 by omega)], hM.toExt⟩
      ·
        refine C.skip <| X.outN <| X.next <| C.seq <| C.region <| E.asg rfl rfl <| E.nil <| X.next <| C.ret <| ret1 rfl rfl ?_
        exact ⟨by rw [chv, if_neg (show ¬ 4096 < zs.length by omega), if_pos hok]; first | (rw [if_pos (show Pf.kr (toN zs) = 0 by omega)]) | (rw [if_neg (show ¬ Pf.kr (toN zs) = 0 by omega), if_pos (show Pf.kr (toN zs) = 1073741824 by omega)]) | rw [if_neg (show ¬ Pf.kr (toN zs) = 0 by omega), if_neg (show ¬ Pf.kr (toN zs) = 1073741824 by omega)], hM.toExt⟩

theorem rCheck_ret (p : Value) (zs : List Int) (w : World) (hr : RdL i64 w p zs) :
    Ret Try.prog 41 #[p] w fun v w' => v = i64 (chv zs) ∧ Ext w w' := by
  have hM := M.start w
  refine enter Try.func41 rfl (by kernel_rfl) Try.ntmps41 rfl ?_
  refine C.seq <| C.region <| E.asg rfl rfl <| E.nil <| X.next <| C.seq <| C.seq <| C.region <| E.mv rfl rfl <| ?_
  refine E.call rfl rfl (rcheck_ret p zs _ (hM.arg0 hr)) ?_
  rintro _ w1 ⟨rfl, x1⟩
  have hM := hM.ext x1
  try dsimp only [List.nil_append, List.cons_append, List.set_cons_zero, List.set_cons_succ, repl] at hM
  refine E.asg rfl rfl <| E.nil <| X.next <| C.seq <| C.region <| E.mv rfl rfl <| E.bin rfl rfl rfl rfl <| E.nil <| X.next <| ?_
  refine C.cond' rfl (fun hC0 => ?_) (fun hC0 => ?_)
  ·
    refine C.seq <| C.region <| E.mv rfl rfl <| E.asg rfl rfl <| E.nil <| X.next <| C.ret <| X.retT <| ret1 rfl rfl ?_
    exact ⟨by unfold chv; congr 1; split; rfl; split; rename_i h1 h2; exact (hC0 (by rw [if_neg h1, if_pos h2])).elim; rfl, hM.toExt⟩
  ·
    obtain ⟨hl4, hok⟩ := wt_ok (Decidable.byContradiction hC0)
    have hkb := kr_bound (toN zs) (toN zs).length (by rw [toN_len]; exact hl4)
    rw [List.take_length] at hkb
    refine C.skip <| X.next <| C.seq <| C.seq <| C.region <| E.mv rfl rfl <| ?_
    refine E.call rfl rfl (rKraft_ret p (toN zs) _ (ok_kr (hM.arg0 hr) hok).1 (ok_kr (hM.arg0 hr) hok).2 (by rw [toN_len]; exact hl4)) ?_
    rintro _ w2 ⟨rfl, x2⟩
    have hM := hM.ext x2
    try dsimp only [List.nil_append, List.cons_append, List.set_cons_zero, List.set_cons_succ, repl] at hM
    refine E.nil <| X.next <| C.block <| C.seq <| C.region <| E.bin rfl rfl rfl rfl <| E.asg rfl rfl <| E.nil <| X.next <| ?_
    refine C.cond' rfl (fun hC1 => ?_) (fun hC1 => ?_)
    ·
      refine C.seq <| C.region <| E.asg rfl rfl <| E.nil <| X.next <| C.ret <| X.retB <| X.retT <| ret1 rfl rfl ?_
      exact ⟨by rw [chv, if_neg (show ¬ 4096 < zs.length by omega), if_pos hok]; first | (rw [if_pos (show Pf.kr (toN zs) = 0 by omega)]) | (rw [if_neg (show ¬ Pf.kr (toN zs) = 0 by omega), if_pos (show Pf.kr (toN zs) = 1073741824 by omega)]) | rw [if_neg (show ¬ Pf.kr (toN zs) = 0 by omega), if_neg (show ¬ Pf.kr (toN zs) = 1073741824 by omega)], hM.toExt⟩
    ·
      refine C.seq <| C.region <| E.bin rfl rfl rfl rfl <| E.asg rfl rfl <| E.nil <| X.next <| ?_
      refine C.cond' rfl (fun hC2 => ?_) (fun hC2 => ?_)
      ·
        refine C.seq <| C.region <| E.asg rfl rfl <| E.nil <| X.next <| C.ret <| X.retB <| X.retT <| ret1 rfl rfl ?_
        exact ⟨by rw [chv, if_neg (show ¬ 4096 < zs.length by omega), if_pos hok]; first | (rw [if_pos (show Pf.kr (toN zs) = 0 by omega)]) | (rw [if_neg (show ¬ Pf.kr (toN zs) = 0 by omega), if_pos (show Pf.kr (toN zs) = 1073741824 by omega)]) | rw [if_neg (show ¬ Pf.kr (toN zs) = 0 by omega), if_neg (show ¬ Pf.kr (toN zs) = 1073741824 by omega)], hM.toExt⟩
      ·
        refine C.skip <| X.outN <| X.next <| C.seq <| C.region <| E.asg rfl rfl <| E.nil <| X.next <| C.ret <| ret1 rfl rfl ?_
        exact ⟨by rw [chv, if_neg (show ¬ 4096 < zs.length by omega), if_pos hok]; first | (rw [if_pos (show Pf.kr (toN zs) = 0 by omega)]) | (rw [if_neg (show ¬ Pf.kr (toN zs) = 0 by omega), if_pos (show Pf.kr (toN zs) = 1073741824 by omega)]) | rw [if_neg (show ¬ Pf.kr (toN zs) = 0 by omega), if_neg (show ¬ Pf.kr (toN zs) = 1073741824 by omega)], hM.toExt⟩

end Go.Proofs.Ytdcgmkoonanpgaa
