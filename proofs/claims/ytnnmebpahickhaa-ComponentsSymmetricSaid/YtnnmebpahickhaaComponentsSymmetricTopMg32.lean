/- Texts of the claim, laid together: Ars. -/
import Derived.Test.YtnnmebpahickhaaComponentsSymmetricTopMg31
/- law 38: areas. -/
namespace Go.Proofs.Ytnnmebpahickhaa
set_option linter.unusedSimpArgs false
set_option linter.unusedVariables false
open Go.RowKit Sym Uf

theorem ins_of {a : Int} : ∀ {o : List Int} {k : Nat}, k ≤ o.length → (∀ x ∈ o.take k, x ≤ a) → (∀ h : k < o.length, ¬ o[k] ≤ a) → ins a o = o.take k ++ [a] ++ o.drop k
  | [], k, hk, _, _ => by
    obtain rfl : k = 0 := by simpa using hk
    rfl
  | b :: o, 0, _, _, h2 => by rw [ins_cons_gt (a := a) (b := b) (l := o) (h2 (by simp))]; rfl
  | b :: o, k + 1, hk, h1, h2 => by
    rw [ins_cons_le (h1 b (by simp)), ins_of (o := o) (k := k) (by simpa using hk) (fun x hx => h1 x (by simp [hx])) (fun h => h2 (by simpa using h))]; rfl
theorem all_take {o : List Int} {k : Nat} {a : Int} (hk : k < o.length) (h : ∀ x ∈ o.take k, x ≤ a) (hle : o[k] ≤ a) : ∀ x ∈ o.take (k + 1), x ≤ a := fun x hx => by
  rw [← List.take_append_getElem hk, List.mem_append] at hx
  rcases hx with hx | hx
  · exact h x hx
  · rw [List.mem_singleton] at hx; rw [hx]; exact hle
theorem LabelAns.fineA {W Ht : Int} {dk : List Bool} {e : Int} {lab : List Int} {bl : List Bl} (hok : okMat W Ht dk.length) (hsm : dk.length ≤ 1600)
    (h : (¬ okMat W Ht dk.length ∧ e = 1 ∧ lab = [] ∧ bl = []) ∨ (okMat W Ht dk.length ∧ 65536 < nf (DD dk true) (RR W.toNat true dk true) dk.length ∧ e = 4 ∧ lab = [] ∧ bl = []) ∨ (okMat W Ht dk.length ∧ nf (DD dk true) (RR W.toNat true dk true) dk.length ≤ 65536 ∧ e = 0 ∧ Labelled (DD dk true) (RR W.toNat true dk true) W.toNat dk.length lab bl)) :
    e = 0 ∧ bl.map (·.area) = ar8 W.toNat dk ∧ bl.length ≤ 1600 := by
  have hl := nf_le (D := DD dk true) (R := RR W.toNat true dk true) dk.length
  rcases h with ⟨h, _⟩ | ⟨_, h, _⟩ | ⟨_, _, h1, h2⟩
  · exact (h hok).elim
  · omega
  · exact ⟨h1, h2.ars, by rw [h2.num]; omega⟩
set_option maxHeartbeats 2000000 in
theorem areas_ret (a b : Nat) (vd : Value) (dk : List Bool) (w : World) (hr : RdL Value.bool w vd dk) (hok : okMat (a : Int) (b : Int) dk.length) (hsm : dk.length ≤ 1600) :
    Ret Try.prog 31 #[mat a b vd] w fun v w' => ∃ vo, v = .tuple #[vo, .bool true] ∧ M w Nn w' [Rg.sl i64 3 vo (srt (ar8 a dk))] := by
  have hM := M.start w
  refine enter Try.func31 rfl (by kernel_rfl) Try.ntmps31 rfl ?_
  refine C.seq <| C.region <| ?_
  refine E.boxM hM rfl rfl rfl ?_
  intro b1 w0 hM
  try dsimp only [List.nil_append, List.cons_append, List.set_cons_zero, List.set_cons_succ, repl] at hM
  refine E.asg rfl rfl <| E.asg rfl rfl <| E.nil <| X.next <| C.seq <| C.region <| ?_
  refine E.loadA rfl Try.underlying24 rfl (by kernel_rfl) (by first | exact hM.bat 0 rfl | exact hM.bat 1 rfl | exact hM.bat 2 rfl | exact hM.bat 3 rfl | exact hM.bat 4 rfl | exact hM.bat 5 rfl) rfl ?_
  refine E.call rfl rfl (Label_ret a b vd dk true _ (hM.arg0 hr)) ?_
  rintro _ w3 ⟨hA, x3⟩
  obtain ⟨va, vb, lab, bl, e, rfl, m, hA⟩ := hA.uni x3
  have hM := hM.call m
  obtain ⟨rfl, har, hbl⟩ := LabelAns.fineA hok hsm hA
  try dsimp only [List.nil_append, List.cons_append, List.set_cons_zero, List.set_cons_succ, repl] at hM
  refine E.mv rfl rfl <| E.ext rfl rfl rfl <| E.ext rfl rfl rfl <| E.ext rfl rfl rfl <| E.asg rfl rfl <| E.asg rfl rfl <| E.asg rfl rfl <| E.nil <| X.next <| C.seq <| C.region <| E.asg rfl rfl <| E.nil <| X.next <| C.seq <| C.seq <| C.region <| E.asg rfl rfl <| E.nil <| X.next <| C.block <| ?_
  have hM := hM.nil i64 3
  try dsimp only [List.nil_append, List.cons_append] at hM

  refine C.loop2 [(5, _), (6, _)] rfl (fun (i : Nat) (v7 : Value) => [(7, v7), (8, i64 i)]) (fun (i : Nat) (v7 : Value) w' => M w (Nn) w' [Rg.blk b1 24 [i64 a, i64 b, vd], Rg.sl i64 3 va lab, Rg.slF Bl.cells 7 38 vb bl, Rg.sl i64 3 v7 (srt ((bl.map (·.area)).take i))] ∧ i ≤ bl.length) (fun (i : Nat) (v7 : Value) => bl.length - i) 0 nilS ?_ ?_ ?_
  · exact Sub.cons rfl <| Sub.cons rfl <| Sub.nil _
  · exact ⟨hM, Nat.zero_le _⟩
  rintro i v7 w2 ⟨hM, hi⟩
  refine C.seq <| C.seq <| C.region <| E.mv rfl rfl <| E.mv rfl rfl <| ?_
  refine E.lenv rfl (RdF.shape (by first | exact hM.slF 0 rfl | exact hM.slF 1 rfl | exact hM.slF 2 rfl | exact hM.slF 3 rfl | exact hM.slF 4 rfl | exact hM.slF 5 rfl | exact hM.argF0 (by assumption) | exact hM.argF (by assumption) (by assumption) | assumption)) Try.underlying28 rfl ?_
  refine E.bin rfl rfl rfl rfl <| E.nil <| X.next <| ?_
  refine C.cond' rfl (fun hC0 => ?_) (fun hC0 => ?_)
  ·
    have hi' : i < bl.length := by omega
    obtain ⟨o, ho⟩ : ∃ o, o = srt ((bl.map (·.area)).take i) := ⟨_, rfl⟩
    rw [← ho] at hM
    have hol : o.length = i := by rw [ho, srt_len, List.length_take, List.length_map]; omega
    refine C.skip <| X.next <| C.seq <| C.block <| C.seq <| C.region <| E.asg rfl rfl <| E.nil <| X.next <| C.seq <| C.region <| E.asg rfl rfl <| E.nil <| X.next <| C.seq <| C.block <| ?_
    have hM := hM.nil i64 3
    try dsimp only [List.nil_append, List.cons_append] at hM

    refine C.loop2 [(5, _), (6, _), (7, _), (8, _)] rfl (fun (v9 : Value) (k : Nat) => [(9, v9), (10, i64 k)]) (fun (v9 : Value) (k : Nat) w' => M w (Nn) w' [Rg.blk b1 24 [i64 a, i64 b, vd], Rg.sl i64 3 va lab, Rg.slF Bl.cells 7 38 vb bl, Rg.sl i64 3 v7 o, Rg.sl i64 3 v9 (o.take k)] ∧ k ≤ o.length ∧ ∀ x ∈ o.take k, x ≤ bl[i].area) (fun (v9 : Value) (k : Nat) => o.length - k) nilS 0 ?_ ?_ ?_
    · exact Sub.cons rfl <| Sub.cons rfl <| Sub.nil _
    · exact ⟨hM, Nat.zero_le _, fun x hx => by simp at hx⟩
    rintro v9 k w3 ⟨hM, hk, hall⟩
    refine C.seq <| ?_

    refine C.chainQ [(5, _), (6, _), (7, _), (8, _), (9, _), (10, _)] rfl [(38, .bool (decide (k < o.length ∧ o.getD k 0 ≤ bl[i].area)))] ?_ ?_
    ·
      refine C.drawn (by kernel_rfl) (by kernel_rfl) <| Q.mv rfl rfl <| Q.mv rfl rfl <| ?_
      refine Q.lenv rfl (Rd.shape (by first | exact hM.sl 0 rfl | exact hM.sl 1 rfl | exact hM.sl 2 rfl | exact hM.sl 3 rfl | exact hM.sl 4 rfl | exact hM.sl 5 rfl | exact hM.arg0 (by assumption) | exact hM.arg (by assumption) (by assumption) | assumption)) Try.underlying27 rfl ?_
      refine Q.bin rfl rfl rfl rfl <| Q.mv rfl rfl <| ?_
      refine Q.split 27 rfl (fun g27 => ?_) (fun g27 => ?_)
      ·
        try simp only [decide_eq_true_eq, decide_eq_false_iff_not, ne_eq, Decidable.not_not, Bool.not_eq_true', Bool.not_eq_false'] at g27
        have hgd : o.getD k 0 = o[k] := by rw [List.getD_eq_getElem?_getD, List.getElem?_eq_getElem (by omega)]; rfl
        refine Q.on rfl rfl (Q.mv rfl rfl ?_)
        refine Q.on rfl rfl (Q.mv rfl rfl ?_)
        refine Q.on rfl rfl (Q.idx1 (k := _) rfl rfl (by first | exact hM.sl 0 rfl | exact hM.sl 1 rfl | exact hM.sl 2 rfl | exact hM.sl 3 rfl | exact hM.sl 4 rfl | exact hM.sl 5 rfl | exact hM.arg0 (by assumption) | exact hM.arg (by assumption) (by assumption) | assumption) rfl (by first | omega | (simp only [List.length_replicate, List.length_append, List.length_set, List.length_cons, List.length_nil, List.length_map, List.length_range, List.length_take, List.length_drop, List.length_zipWith] at *; omega)) Try.underlying27 (by kernel_rfl) rfl ?_)
        refine Q.on rfl rfl (Q.load rfl Try.underlying3 rfl (by first | exact (hM.sl 0 rfl).cellA rfl (by first | omega | (simp only [List.length_replicate, List.length_append, List.length_set, List.length_cons, List.length_nil, List.length_map, List.length_range, List.length_take, List.length_drop, List.length_zipWith] at *; omega)) | exact (hM.sl 1 rfl).cellA rfl (by first | omega | (simp only [List.length_replicate, List.length_append, List.length_set, List.length_cons, List.length_nil, List.length_map, List.length_range, List.length_take, List.length_drop, List.length_zipWith] at *; omega)) | exact (hM.sl 2 rfl).cellA rfl (by first | omega | (simp only [List.length_replicate, List.length_append, List.length_set, List.length_cons, List.length_nil, List.length_map, List.length_range, List.length_take, List.length_drop, List.length_zipWith] at *; omega)) | exact (hM.sl 3 rfl).cellA rfl (by first | omega | (simp only [List.length_replicate, List.length_append, List.length_set, List.length_cons, List.length_nil, List.length_map, List.length_range, List.length_take, List.length_drop, List.length_zipWith] at *; omega)) | exact (hM.sl 4 rfl).cellA rfl (by first | omega | (simp only [List.length_replicate, List.length_append, List.length_set, List.length_cons, List.length_nil, List.length_map, List.length_range, List.length_take, List.length_drop, List.length_zipWith] at *; omega)) | exact (hM.sl 5 rfl).cellA rfl (by first | omega | (simp only [List.length_replicate, List.length_append, List.length_set, List.length_cons, List.length_nil, List.length_map, List.length_range, List.length_take, List.length_drop, List.length_zipWith] at *; omega)) | exact (hM.arg0 (by assumption)).cellA rfl (by first | omega | (simp only [List.length_replicate, List.length_append, List.length_set, List.length_cons, List.length_nil, List.length_map, List.length_range, List.length_take, List.length_drop, List.length_zipWith] at *; omega)) | exact (hM.arg (by assumption) (by assumption)).cellA rfl (by first | omega | (simp only [List.length_replicate, List.length_append, List.length_set, List.length_cons, List.length_nil, List.length_map, List.length_range, List.length_take, List.length_drop, List.length_zipWith] at *; omega))) rfl ?_)
        refine Q.on rfl rfl (Q.mv rfl rfl ?_)
        refine Q.on rfl rfl (Q.mv rfl rfl ?_)
        refine Q.on rfl rfl (Q.idxF (k := _) rfl rfl (by first | exact hM.slF 0 rfl | exact hM.slF 1 rfl | exact hM.slF 2 rfl | exact hM.slF 3 rfl | exact hM.slF 4 rfl | exact hM.slF 5 rfl | exact hM.argF0 (by assumption) | exact hM.argF (by assumption) (by assumption) | assumption) rfl (by first | omega | (simp only [List.length_replicate, List.length_append, List.length_set, List.length_cons, List.length_nil, List.length_map, List.length_range, List.length_take, List.length_drop, List.length_zipWith] at *; omega)) (by decide) Try.underlying28 (by kernel_rfl) rfl ?_)
        refine Q.on rfl rfl (Q.fld (o := 4) (sz := 0) rfl Try.underlying38 rfl rfl (by kernel_rfl) rfl ?_)
        refine Q.on rfl rfl (Q.load rfl Try.underlying3 rfl (by first | exact (hM.slF 0 rfl).atA rfl (by first | omega | (simp only [List.length_replicate, List.length_append, List.length_set, List.length_cons, List.length_nil, List.length_map, List.length_range, List.length_take, List.length_drop, List.length_zipWith] at *; omega)) rfl | exact (hM.slF 1 rfl).atA rfl (by first | omega | (simp only [List.length_replicate, List.length_append, List.length_set, List.length_cons, List.length_nil, List.length_map, List.length_range, List.length_take, List.length_drop, List.length_zipWith] at *; omega)) rfl | exact (hM.slF 2 rfl).atA rfl (by first | omega | (simp only [List.length_replicate, List.length_append, List.length_set, List.length_cons, List.length_nil, List.length_map, List.length_range, List.length_take, List.length_drop, List.length_zipWith] at *; omega)) rfl | exact (hM.slF 3 rfl).atA rfl (by first | omega | (simp only [List.length_replicate, List.length_append, List.length_set, List.length_cons, List.length_nil, List.length_map, List.length_range, List.length_take, List.length_drop, List.length_zipWith] at *; omega)) rfl | exact (hM.slF 4 rfl).atA rfl (by first | omega | (simp only [List.length_replicate, List.length_append, List.length_set, List.length_cons, List.length_nil, List.length_map, List.length_range, List.length_take, List.length_drop, List.length_zipWith] at *; omega)) rfl | exact (hM.slF 5 rfl).atA rfl (by first | omega | (simp only [List.length_replicate, List.length_append, List.length_set, List.length_cons, List.length_nil, List.length_map, List.length_range, List.length_take, List.length_drop, List.length_zipWith] at *; omega)) rfl | exact (hM.argF0 (by assumption)).atA rfl (by first | omega | (simp only [List.length_replicate, List.length_append, List.length_set, List.length_cons, List.length_nil, List.length_map, List.length_range, List.length_take, List.length_drop, List.length_zipWith] at *; omega)) rfl | exact (hM.argF (by assumption) (by assumption)).atA rfl (by first | omega | (simp only [List.length_replicate, List.length_append, List.length_set, List.length_cons, List.length_nil, List.length_map, List.length_range, List.length_take, List.length_drop, List.length_zipWith] at *; omega)) rfl) rfl ?_)
        refine Q.on rfl rfl (Q.bin rfl rfl rfl rfl ?_)
        refine Q.pick rfl rfl rfl <| Q.nil <| fun w4 hx4 => ?_
        refine X.join0 (Sub.cons (by (first | exact leaf_f (by omega) | exact leaf_t (by omega) | exact leaf_d (by omega) | exact leaf_f (by first | (simp [*] <;> fail) | omega) | exact leaf_t (by first | (simp [*] <;> fail) | omega) | exact leaf_d (by first | (simp [*] <;> fail) | omega) | exact leaf_f (by (first | omega | ((try simp only [decide_eq_true_eq, decide_eq_false_iff_not, Bool.not_eq_true', Bool.not_eq_false'] at *); first | omega | (simp_all <;> fail) | (simp_all; omega)))) | exact leaf_t (by (first | omega | ((try simp only [decide_eq_true_eq, decide_eq_false_iff_not, Bool.not_eq_true', Bool.not_eq_false'] at *); first | omega | (simp_all <;> fail) | (simp_all; omega)))) | exact leaf_d (by (first | omega | ((try simp only [decide_eq_true_eq, decide_eq_false_iff_not, Bool.not_eq_true', Bool.not_eq_false'] at *); first | omega | (simp_all <;> fail) | (simp_all; omega)))))) <| Sub.nil _) rfl hx4
      ·
        try simp only [decide_eq_true_eq, decide_eq_false_iff_not, ne_eq, Decidable.not_not, Bool.not_eq_true', Bool.not_eq_false'] at g27
        refine Q.off rfl rfl rfl rfl <| Q.off rfl rfl rfl rfl <| Q.off rfl rfl rfl rfl <| Q.off rfl rfl rfl rfl <| Q.off rfl rfl rfl rfl <| Q.off rfl rfl rfl rfl <| Q.off rfl rfl rfl rfl <| Q.off rfl rfl rfl rfl <| Q.off rfl rfl rfl rfl <| Q.off rfl rfl rfl rfl <| Q.pick rfl rfl rfl <| Q.nil <| fun w5 hx5 => ?_
        refine X.join0 (Sub.cons (by (first | exact leaf_f (by omega) | exact leaf_t (by omega) | exact leaf_d (by omega) | exact leaf_f (by first | (simp [*] <;> fail) | omega) | exact leaf_t (by first | (simp [*] <;> fail) | omega) | exact leaf_d (by first | (simp [*] <;> fail) | omega) | exact leaf_f (by (first | omega | ((try simp only [decide_eq_true_eq, decide_eq_false_iff_not, Bool.not_eq_true', Bool.not_eq_false'] at *); first | omega | (simp_all <;> fail) | (simp_all; omega)))) | exact leaf_t (by (first | omega | ((try simp only [decide_eq_true_eq, decide_eq_false_iff_not, Bool.not_eq_true', Bool.not_eq_false'] at *); first | omega | (simp_all <;> fail) | (simp_all; omega)))) | exact leaf_d (by (first | omega | ((try simp only [decide_eq_true_eq, decide_eq_false_iff_not, Bool.not_eq_true', Bool.not_eq_false'] at *); first | omega | (simp_all <;> fail) | (simp_all; omega)))))) <| Sub.nil _) rfl hx5
    intro w6 hx6
    have hM := hM.ext hx6
    refine C.cond' rfl (fun hC1 => ?_) (fun hC1 => ?_)
    ·
      obtain ⟨hk', hle⟩ := hC1
      have hgd : o.getD k 0 = o[k] := by rw [List.getD_eq_getElem?_getD, List.getElem?_eq_getElem hk']; rfl
      rw [hgd] at hle
      have htk : (o.take k).length = k := by rw [List.length_take]; omega
      refine C.skip <| X.next <| C.block <| C.seq <| C.region <| E.mv rfl rfl <| E.mv rfl rfl <| E.mv rfl rfl <| ?_
      refine E.get (k := _) rfl rfl (by first | exact hM.sl 0 rfl | exact hM.sl 1 rfl | exact hM.sl 2 rfl | exact hM.sl 3 rfl | exact hM.sl 4 rfl | exact hM.sl 5 rfl | exact hM.arg0 (by assumption) | exact hM.arg (by assumption) (by assumption) | assumption) rfl (by first | omega | (simp only [List.length_replicate, List.length_append, List.length_set, List.length_cons, List.length_nil, List.length_map, List.length_range, List.length_take, List.length_drop, List.length_zipWith] at *; omega)) Try.underlying27 (by kernel_rfl) Try.underlying3 rfl rfl rfl ?_
      first
        | refine E.pushM 0 _ hM rfl rfl rfl Try.underlying27 elem_Tint rfl ?_ ?_ (by simp) rfl rfl ?_
        | refine E.pushM 1 _ hM rfl rfl rfl Try.underlying27 elem_Tint rfl ?_ ?_ (by simp) rfl rfl ?_
        | refine E.pushM 2 _ hM rfl rfl rfl Try.underlying27 elem_Tint rfl ?_ ?_ (by simp) rfl rfl ?_
        | refine E.pushM 3 _ hM rfl rfl rfl Try.underlying27 elem_Tint rfl ?_ ?_ (by simp) rfl rfl ?_
        | refine E.pushM 4 _ hM rfl rfl rfl Try.underlying27 elem_Tint rfl ?_ ?_ (by simp) rfl rfl ?_
        | refine E.pushM 5 _ hM rfl rfl rfl Try.underlying27 elem_Tint rfl ?_ ?_ (by simp) rfl rfl ?_
      · exact (by first | omega | (simp only [List.length_replicate, List.length_append, List.length_set, List.length_cons, List.length_nil, List.length_map, List.length_range, List.length_take, List.length_drop, List.length_zipWith] at *; omega))
      · exact (by first | omega | (simp only [List.length_replicate, List.length_append, List.length_set, List.length_cons, List.length_nil, List.length_map, List.length_range, List.length_take, List.length_drop, List.length_zipWith] at *; omega))
      intro v45 u45 w7 hM
      try dsimp only [List.nil_append, List.cons_append, List.set_cons_zero, List.set_cons_succ, repl] at hM
      refine E.asg rfl rfl <| E.nil <| X.next <| C.region <| E.mv rfl rfl <| ?_
      refine E.add rfl rfl (by omega) rfl ?_

      refine E.asg rfl rfl <| E.nil <| X.outN <| X.again2 _ (k + 1) (Sub.cons rfl <| Sub.cons rfl <| Sub.nil _) rfl ⟨by rw [← List.take_append_getElem hk']; exact hM, by omega, all_take hk' hall hle⟩ (by omega)
    ·
      have hin := ins_of (a := bl[i].area) hk hall (fun h hc => hC1 ⟨h, by rw [List.getD_eq_getElem?_getD, List.getElem?_eq_getElem h]; exact hc⟩)
      have htk : (o.take k).length = k := by rw [List.length_take]; omega
      refine C.exit <| X.exitT <| X.exitT <| X.outE <| X.next <| C.seq <| C.region <| E.mv rfl rfl <| E.mv rfl rfl <| E.mv rfl rfl <| ?_
      refine E.idxF (k := _) rfl rfl (by first | exact hM.slF 0 rfl | exact hM.slF 1 rfl | exact hM.slF 2 rfl | exact hM.slF 3 rfl | exact hM.slF 4 rfl | exact hM.slF 5 rfl | exact hM.argF0 (by assumption) | exact hM.argF (by assumption) (by assumption) | assumption) rfl (by first | omega | (simp only [List.length_replicate, List.length_append, List.length_set, List.length_cons, List.length_nil, List.length_map, List.length_range, List.length_take, List.length_drop, List.length_zipWith] at *; omega)) (by decide) Try.underlying28 (by kernel_rfl) rfl ?_
      refine E.fld (o := 4) (sz := 0) rfl Try.underlying38 rfl rfl (by kernel_rfl) rfl ?_
      refine E.load rfl Try.underlying3 rfl (by first | exact (hM.slF 0 rfl).atA rfl (by first | omega | (simp only [List.length_replicate, List.length_append, List.length_set, List.length_cons, List.length_nil, List.length_map, List.length_range, List.length_take, List.length_drop, List.length_zipWith] at *; omega)) rfl | exact (hM.slF 1 rfl).atA rfl (by first | omega | (simp only [List.length_replicate, List.length_append, List.length_set, List.length_cons, List.length_nil, List.length_map, List.length_range, List.length_take, List.length_drop, List.length_zipWith] at *; omega)) rfl | exact (hM.slF 2 rfl).atA rfl (by first | omega | (simp only [List.length_replicate, List.length_append, List.length_set, List.length_cons, List.length_nil, List.length_map, List.length_range, List.length_take, List.length_drop, List.length_zipWith] at *; omega)) rfl | exact (hM.slF 3 rfl).atA rfl (by first | omega | (simp only [List.length_replicate, List.length_append, List.length_set, List.length_cons, List.length_nil, List.length_map, List.length_range, List.length_take, List.length_drop, List.length_zipWith] at *; omega)) rfl | exact (hM.slF 4 rfl).atA rfl (by first | omega | (simp only [List.length_replicate, List.length_append, List.length_set, List.length_cons, List.length_nil, List.length_map, List.length_range, List.length_take, List.length_drop, List.length_zipWith] at *; omega)) rfl | exact (hM.slF 5 rfl).atA rfl (by first | omega | (simp only [List.length_replicate, List.length_append, List.length_set, List.length_cons, List.length_nil, List.length_map, List.length_range, List.length_take, List.length_drop, List.length_zipWith] at *; omega)) rfl | exact (hM.argF0 (by assumption)).atA rfl (by first | omega | (simp only [List.length_replicate, List.length_append, List.length_set, List.length_cons, List.length_nil, List.length_map, List.length_range, List.length_take, List.length_drop, List.length_zipWith] at *; omega)) rfl | exact (hM.argF (by assumption) (by assumption)).atA rfl (by first | omega | (simp only [List.length_replicate, List.length_append, List.length_set, List.length_cons, List.length_nil, List.length_map, List.length_range, List.length_take, List.length_drop, List.length_zipWith] at *; omega)) rfl) rfl ?_
      first
        | refine E.pushM 0 _ hM rfl rfl rfl Try.underlying27 elem_Tint rfl ?_ ?_ (by simp) rfl rfl ?_
        | refine E.pushM 1 _ hM rfl rfl rfl Try.underlying27 elem_Tint rfl ?_ ?_ (by simp) rfl rfl ?_
        | refine E.pushM 2 _ hM rfl rfl rfl Try.underlying27 elem_Tint rfl ?_ ?_ (by simp) rfl rfl ?_
        | refine E.pushM 3 _ hM rfl rfl rfl Try.underlying27 elem_Tint rfl ?_ ?_ (by simp) rfl rfl ?_
        | refine E.pushM 4 _ hM rfl rfl rfl Try.underlying27 elem_Tint rfl ?_ ?_ (by simp) rfl rfl ?_
        | refine E.pushM 5 _ hM rfl rfl rfl Try.underlying27 elem_Tint rfl ?_ ?_ (by simp) rfl rfl ?_
      · exact (by first | omega | (simp only [List.length_replicate, List.length_append, List.length_set, List.length_cons, List.length_nil, List.length_map, List.length_range, List.length_take, List.length_drop, List.length_zipWith] at *; omega))
      · exact (by first | omega | (simp only [List.length_replicate, List.length_append, List.length_set, List.length_cons, List.length_nil, List.length_map, List.length_range, List.length_take, List.length_drop, List.length_zipWith] at *; omega))
      intro v55 u55 w8 hM
      try dsimp only [List.nil_append, List.cons_append, List.set_cons_zero, List.set_cons_succ, repl] at hM
      refine E.asg rfl rfl <| E.nil <| X.next <| C.seq <| C.region <| E.mv rfl rfl <| E.mv rfl rfl <| E.mv rfl rfl <| ?_
      refine E.slcL (k' := .i64) _ _ rfl (.inl rfl) (.inr ⟨rfl, rfl⟩) (by first | exact hM.sl 0 rfl | exact hM.sl 1 rfl | exact hM.sl 2 rfl | exact hM.sl 3 rfl | exact hM.sl 4 rfl | exact hM.sl 5 rfl | exact hM.arg0 (by assumption) | exact hM.arg (by assumption) (by assumption) | assumption) Try.underlying27 (by kernel_rfl) (by first | omega | (simp only [List.length_replicate, List.length_append, List.length_set, List.length_cons, List.length_nil, List.length_map, List.length_range, List.length_take, List.length_drop, List.length_zipWith] at *; omega)) (by first | omega | (simp only [List.length_replicate, List.length_append, List.length_set, List.length_cons, List.length_nil, List.length_map, List.length_range, List.length_take, List.length_drop, List.length_zipWith] at *; omega)) rfl ?_
      intro v59 p59 r59
      rw [show cutL k o.length o = o.drop k from by rw [cutL]; exact List.take_of_length_le (by simp)] at r59
      first
        | refine E.appendM 0 hM rfl rfl rfl Try.underlying27 elem_Tint (by first | exact hM.sl 0 rfl | exact hM.sl 1 rfl | exact hM.sl 2 rfl | exact hM.sl 3 rfl | exact hM.sl 4 rfl | exact hM.sl 5 rfl | exact hM.arg0 (by assumption) | exact hM.arg (by assumption) (by assumption) | assumption) ?_ ?_ ?_ rfl ?_
        | refine E.appendM 1 hM rfl rfl rfl Try.underlying27 elem_Tint (by first | exact hM.sl 0 rfl | exact hM.sl 1 rfl | exact hM.sl 2 rfl | exact hM.sl 3 rfl | exact hM.sl 4 rfl | exact hM.sl 5 rfl | exact hM.arg0 (by assumption) | exact hM.arg (by assumption) (by assumption) | assumption) ?_ ?_ ?_ rfl ?_
        | refine E.appendM 2 hM rfl rfl rfl Try.underlying27 elem_Tint (by first | exact hM.sl 0 rfl | exact hM.sl 1 rfl | exact hM.sl 2 rfl | exact hM.sl 3 rfl | exact hM.sl 4 rfl | exact hM.sl 5 rfl | exact hM.arg0 (by assumption) | exact hM.arg (by assumption) (by assumption) | assumption) ?_ ?_ ?_ rfl ?_
        | refine E.appendM 3 hM rfl rfl rfl Try.underlying27 elem_Tint (by first | exact hM.sl 0 rfl | exact hM.sl 1 rfl | exact hM.sl 2 rfl | exact hM.sl 3 rfl | exact hM.sl 4 rfl | exact hM.sl 5 rfl | exact hM.arg0 (by assumption) | exact hM.arg (by assumption) (by assumption) | assumption) ?_ ?_ ?_ rfl ?_
        | refine E.appendM 4 hM rfl rfl rfl Try.underlying27 elem_Tint (by first | exact hM.sl 0 rfl | exact hM.sl 1 rfl | exact hM.sl 2 rfl | exact hM.sl 3 rfl | exact hM.sl 4 rfl | exact hM.sl 5 rfl | exact hM.arg0 (by assumption) | exact hM.arg (by assumption) (by assumption) | assumption) ?_ ?_ ?_ rfl ?_
        | refine E.appendM 5 hM rfl rfl rfl Try.underlying27 elem_Tint (by first | exact hM.sl 0 rfl | exact hM.sl 1 rfl | exact hM.sl 2 rfl | exact hM.sl 3 rfl | exact hM.sl 4 rfl | exact hM.sl 5 rfl | exact hM.arg0 (by assumption) | exact hM.arg (by assumption) (by assumption) | assumption) ?_ ?_ ?_ rfl ?_
      · exact fun _ => rfl
      · exact (by first | omega | (simp only [List.length_replicate, List.length_append, List.length_set, List.length_cons, List.length_nil, List.length_map, List.length_range, List.length_take, List.length_drop, List.length_zipWith] at *; omega))
      · exact (by first | omega | (simp only [List.length_replicate, List.length_append, List.length_set, List.length_cons, List.length_nil, List.length_map, List.length_range, List.length_take, List.length_drop, List.length_zipWith] at *; omega))
      intro v60 w9 hM
      try dsimp only [List.nil_append, List.cons_append, List.set_cons_zero, List.set_cons_succ, repl] at hM
      refine E.asg rfl rfl <| E.nil <| X.next <| C.region <| E.mv rfl rfl <| E.asg rfl rfl <| E.nil <| X.outN <| X.next <| C.region <| E.mv rfl rfl <| ?_
      refine E.add rfl rfl (by omega) rfl ?_

      refine E.asg rfl rfl <| E.nil <| X.again2 (i + 1) _ (Sub.cons rfl <| Sub.cons rfl <| Sub.nil _) rfl ⟨by rw [← List.take_append_getElem (show i < (bl.map (·.area)).length by rw [List.length_map]; exact hi'), srt_snoc, ← ho, List.getElem_map, hin]; exact hM.pick [0, 1, 2, 4] (by decide), by omega⟩ (by omega)
  ·
    obtain rfl : i = bl.length := by omega
    rw [List.take_of_length_le (by rw [List.length_map]; exact Nat.le_refl _), har] at hM
    refine C.exit <| X.exitT <| X.exitT <| X.outE <| X.next <| C.seq <| C.region <| E.mv rfl rfl <| E.mv rfl rfl <| E.bin rfl rfl rfl rfl <| E.asg rfl rfl <| E.asg rfl rfl <| E.nil <| X.next <| C.ret <| ret2 rfl rfl rfl ?_
    exact ⟨_, rfl, hM.pick [3] (by decide)⟩

end Go.Proofs.Ytnnmebpahickhaa
