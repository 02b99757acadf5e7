/- reference of components: parts. -/
import Derived.Test.YtnnmebpahickhaaPartsM
namespace Go.Proofs.Ytnnmebpahickhaa
set_option linter.unusedSimpArgs false
set_option linter.unusedVariables false
open Go.RowKit Sym Uf

set_option maxHeartbeats 1000000 in
theorem rparts_ret (W Ht : Nat) (vd : Value) (dk : List Bool) (dark eight : Bool) (w : World) (hW : 1 ≤ W ∧ W ≤ 4096) (hH : 1 ≤ Ht ∧ Ht ≤ 4096) (hn : dk.length = W * Ht) (hn0 : dk.length ≤ 4194304) (hr : RdL Value.bool w vd dk) :
    Ret Try.prog 38 #[mat W Ht vd, .bool dark, .bool eight] w fun v w' => ∃ va vb lab bl, v = .tuple #[va, vb] ∧ Labelled (DD dk dark) (RR W eight dk dark) W dk.length lab bl ∧ M w Nn w' [Rg.sl i64 3 va lab, Rg.slF Bl.cells 7 38 vb bl] := by
  have hM := M.start w
  refine enter Try.func38 rfl (by kernel_rfl) Try.ntmps38 rfl ?_
  refine C.seq <| C.region <| ?_
  refine E.boxM hM rfl rfl rfl ?_
  intro b3 w0 hM
  try dsimp only [List.nil_append, List.cons_append, List.set_cons_zero, List.set_cons_succ, repl] at hM
  refine E.asg rfl rfl <| E.asg rfl rfl <| E.nil <| X.next <| C.seq <| C.region <| E.asg rfl rfl <| E.nil <| X.next <| C.seq <| C.seq <| C.region <| E.asg rfl rfl <| E.nil <| X.next <| C.block <| ?_
  have hM := hM.nil i64 3

  refine C.loop2 [(1, _), (2, _), (3, _)] rfl (fun (vl : Value) (i : Nat) => [(8, vl), (9, i64 i)]) (fun (vl : Value) (i : Nat) w' => M w (Nn) w' [Rg.blk b3 24 [i64 W, i64 Ht, vd], Rg.sl i64 3 vl (List.replicate i (-1))] ∧ i ≤ dk.length) (fun (vl : Value) (i : Nat) => dk.length - i) nilS 0 ?_ ?_ ?_
  · exact Sub.cons rfl <| Sub.cons rfl <| Sub.nil _
  · exact ⟨hM, Nat.zero_le _⟩
  rintro vl i w1 ⟨hM, hi⟩
  refine C.seq <| C.seq <| C.region <| E.mv rfl rfl <| ?_
  refine E.fld (o := 2) (sz := 0) rfl Try.underlying24 rfl rfl (by kernel_rfl) rfl ?_
  refine E.load rfl Try.underlying22 rfl (by first | exact hM.bcell 0 rfl rfl | exact hM.bcell 1 rfl rfl | exact hM.bcell 2 rfl rfl | exact hM.bcell 3 rfl rfl | exact hM.bcell 4 rfl rfl | exact hM.bcell 5 rfl rfl | exact hM.bcell 6 rfl rfl | exact hM.bcell 7 rfl rfl) rfl ?_
  refine E.lenv rfl (Rd.shape (by first | exact hM.sl 0 rfl | exact hM.sl 1 rfl | exact hM.sl 2 rfl | exact hM.sl 3 rfl | exact hM.sl 4 rfl | exact hM.sl 5 rfl | exact hM.sl 6 rfl | exact hM.sl 7 rfl | exact hM.arg0 (by assumption) | exact hM.arg (by assumption) (by assumption) | assumption)) Try.underlying22 rfl ?_
  refine E.bin rfl rfl rfl rfl <| E.nil <| X.next <| ?_
  refine C.cond' rfl (fun hC0 => ?_) (fun hC0 => ?_)
  ·
    refine C.skip <| X.next <| C.seq <| C.block <| C.region <| E.mv rfl rfl <| ?_
    first
      | refine E.pushM 0 _ hM rfl rfl rfl Try.underlying27 elem_Tint rfl ?_ ?_ (by simp) rfl rfl ?_
      | refine E.pushM 1 _ hM rfl rfl rfl Try.underlying27 elem_Tint rfl ?_ ?_ (by simp) rfl rfl ?_
      | refine E.pushM 2 _ hM rfl rfl rfl Try.underlying27 elem_Tint rfl ?_ ?_ (by simp) rfl rfl ?_
      | refine E.pushM 3 _ hM rfl rfl rfl Try.underlying27 elem_Tint rfl ?_ ?_ (by simp) rfl rfl ?_
      | refine E.pushM 4 _ hM rfl rfl rfl Try.underlying27 elem_Tint rfl ?_ ?_ (by simp) rfl rfl ?_
      | refine E.pushM 5 _ hM rfl rfl rfl Try.underlying27 elem_Tint rfl ?_ ?_ (by simp) rfl rfl ?_
      | refine E.pushM 6 _ hM rfl rfl rfl Try.underlying27 elem_Tint rfl ?_ ?_ (by simp) rfl rfl ?_
      | refine E.pushM 7 _ hM rfl rfl rfl Try.underlying27 elem_Tint rfl ?_ ?_ (by simp) rfl rfl ?_
    · exact (by first | omega | (simp only [List.length_replicate, List.length_append, List.length_set, List.length_cons, List.length_nil, List.length_map, List.length_range, List.length_take, List.length_drop, List.length_zipWith] at *; omega))
    · exact (by first | omega | (simp only [List.length_replicate, List.length_append, List.length_set, List.length_cons, List.length_nil, List.length_map, List.length_range, List.length_take, List.length_drop, List.length_zipWith] at *; omega))
    intro v22 u22 w2 hM
    try dsimp only [List.nil_append, List.cons_append, List.set_cons_zero, List.set_cons_succ, repl] at hM
    refine E.asg rfl rfl <| E.nil <| X.outN <| X.next <| C.region <| E.mv rfl rfl <| ?_
    refine E.add rfl rfl (by omega) rfl ?_

    refine E.asg rfl rfl <| E.nil <| X.again2 _ (i + 1) (Sub.cons rfl <| Sub.cons rfl <| Sub.nil _) rfl ⟨by rw [List.replicate_succ']; exact hM, by omega⟩ (by omega)
  ·
    obtain rfl : i = dk.length := by omega
    refine C.exit <| X.exitT <| X.exitT <| X.outE <| X.next <| C.seq <| C.region <| E.asg rfl rfl <| E.nil <| X.next <| C.seq <| C.seq <| C.region <| E.asg rfl rfl <| E.nil <| X.next <| C.block <| ?_
    have hM := hM.nilF Bl.cells 7 38

    refine C.loop5 [(1, _), (2, _), (3, _)] rfl (fun (vl : Value) (lab : (List Int)) (vb : Value) (bl : (List Bl)) (i : Nat) => [(8, vl), (10, vb), (11, i64 i)]) (fun (vl : Value) (lab : (List Int)) (vb : Value) (bl : (List Bl)) (i : Nat) w' => M w (Nn) w' [Rg.blk b3 24 [i64 W, i64 Ht, vd], Rg.sl i64 3 vl lab, Rg.slF Bl.cells 7 38 vb bl] ∧ i ≤ dk.length ∧ PInv (DD dk dark) (RR W eight dk dark) W dk.length i lab bl) (fun (vl : Value) (lab : (List Int)) (vb : Value) (bl : (List Bl)) (i : Nat) => dk.length - i) vl (List.replicate dk.length (-1)) nilS [] 0 ?_ ?_ ?_
    · exact Sub.cons rfl <| Sub.cons rfl <| Sub.cons rfl <| Sub.nil _
    · exact ⟨hM, Nat.zero_le _, PInv.start _ _ _ _⟩
    rintro vl lab vb bl i w3 ⟨hM, hi, hP⟩
    refine C.seq <| C.seq <| C.region <| E.mv rfl rfl <| ?_
    refine E.fld (o := 2) (sz := 0) rfl Try.underlying24 rfl rfl (by kernel_rfl) rfl ?_
    refine E.load rfl Try.underlying22 rfl (by first | exact hM.bcell 0 rfl rfl | exact hM.bcell 1 rfl rfl | exact hM.bcell 2 rfl rfl | exact hM.bcell 3 rfl rfl | exact hM.bcell 4 rfl rfl | exact hM.bcell 5 rfl rfl | exact hM.bcell 6 rfl rfl | exact hM.bcell 7 rfl rfl) rfl ?_
    refine E.lenv rfl (Rd.shape (by first | exact hM.sl 0 rfl | exact hM.sl 1 rfl | exact hM.sl 2 rfl | exact hM.sl 3 rfl | exact hM.sl 4 rfl | exact hM.sl 5 rfl | exact hM.sl 6 rfl | exact hM.sl 7 rfl | exact hM.arg0 (by assumption) | exact hM.arg (by assumption) (by assumption) | assumption)) Try.underlying22 rfl ?_
    refine E.bin rfl rfl rfl rfl <| E.nil <| X.next <| ?_
    refine C.cond' rfl (fun hC1 => ?_) (fun hC1 => ?_)
    ·
      have hi' : i < dk.length := by omega
      have hil : i < lab.length := by rw [hP.len]; exact hi'
      have hnum := hP.num
      have hnf := nf_le (D := DD dk dark) (R := RR W eight dk dark) i
      refine C.skip <| X.next <| ?_

      refine C.cut4 [(1, _), (2, _), (3, _), (11, _)] rfl (fun (vl : Value) (lab : (List Int)) (vb : Value) (bl : (List Bl)) => [(8, vl), (10, vb)]) (fun (vl : Value) (lab : (List Int)) (vb : Value) (bl : (List Bl)) w' => M w (Nn) w' [Rg.blk b3 24 [i64 W, i64 Ht, vd], Rg.sl i64 3 vl lab, Rg.slF Bl.cells 7 38 vb bl] ∧ PInv (DD dk dark) (RR W eight dk dark) W dk.length (i + 1) lab bl) ?_ ?_
      ·
        refine C.block <| ?_

        refine C.chainE [(1, _), (2, _), (3, _), (8, _), (10, _), (11, _)] rfl [(43, .bool (decide (dk[i] = dark ∧ lab[i] < 0)))] ?_ ?_
        ·
          refine C.region <| ?_
          refine E.fld (o := 2) (sz := 0) rfl Try.underlying24 rfl rfl (by kernel_rfl) rfl ?_
          refine E.load rfl Try.underlying22 rfl (by first | exact hM.bcell 0 rfl rfl | exact hM.bcell 1 rfl rfl | exact hM.bcell 2 rfl rfl | exact hM.bcell 3 rfl rfl | exact hM.bcell 4 rfl rfl | exact hM.bcell 5 rfl rfl | exact hM.bcell 6 rfl rfl | exact hM.bcell 7 rfl rfl) rfl ?_
          refine E.mv rfl rfl <| ?_
          refine E.get (k := _) rfl rfl (by first | exact hM.sl 0 rfl | exact hM.sl 1 rfl | exact hM.sl 2 rfl | exact hM.sl 3 rfl | exact hM.sl 4 rfl | exact hM.sl 5 rfl | exact hM.sl 6 rfl | exact hM.sl 7 rfl | exact hM.arg0 (by assumption) | exact hM.arg (by assumption) (by assumption) | assumption) rfl (by first | omega | (simp only [List.length_replicate, List.length_append, List.length_set, List.length_cons, List.length_nil, List.length_map, List.length_range, List.length_take, List.length_drop, List.length_zipWith] at *; omega)) Try.underlying22 (by kernel_rfl) Try.underlying4 rfl rfl rfl ?_
          refine E.mv rfl rfl <| E.eqb rfl rfl Try.underlying4 rfl <| E.mv rfl rfl <| ?_
          refine E.split 37 rfl (fun g37 => ?_) (fun g37 => ?_)
          ·
            try simp only [decide_eq_true_eq, decide_eq_false_iff_not, ne_eq, Decidable.not_not] at g37
            refine E.on rfl rfl (E.mv rfl rfl ?_)
            refine E.on rfl rfl (E.mv rfl rfl ?_)
            refine E.on rfl rfl (E.idx1 (k := _) rfl rfl (by first | exact hM.sl 0 rfl | exact hM.sl 1 rfl | exact hM.sl 2 rfl | exact hM.sl 3 rfl | exact hM.sl 4 rfl | exact hM.sl 5 rfl | exact hM.sl 6 rfl | exact hM.sl 7 rfl | exact hM.arg0 (by assumption) | exact hM.arg (by assumption) (by assumption) | assumption) rfl (by first | omega | (simp only [List.length_replicate, List.length_append, List.length_set, List.length_cons, List.length_nil, List.length_map, List.length_range, List.length_take, List.length_drop, List.length_zipWith] at *; omega)) Try.underlying27 (by kernel_rfl) rfl ?_)
            refine E.on rfl rfl (E.load rfl Try.underlying3 rfl (by first | exact (hM.sl 0 rfl).cellA rfl (by first | omega | (simp only [List.length_replicate, List.length_append, List.length_set, List.length_cons, List.length_nil, List.length_map, List.length_range, List.length_take, List.length_drop, List.length_zipWith] at *; omega)) | exact (hM.sl 1 rfl).cellA rfl (by first | omega | (simp only [List.length_replicate, List.length_append, List.length_set, List.length_cons, List.length_nil, List.length_map, List.length_range, List.length_take, List.length_drop, List.length_zipWith] at *; omega)) | exact (hM.sl 2 rfl).cellA rfl (by first | omega | (simp only [List.length_replicate, List.length_append, List.length_set, List.length_cons, List.length_nil, List.length_map, List.length_range, List.length_take, List.length_drop, List.length_zipWith] at *; omega)) | exact (hM.sl 3 rfl).cellA rfl (by first | omega | (simp only [List.length_replicate, List.length_append, List.length_set, List.length_cons, List.length_nil, List.length_map, List.length_range, List.length_take, List.length_drop, List.length_zipWith] at *; omega)) | exact (hM.sl 4 rfl).cellA rfl (by first | omega | (simp only [List.length_replicate, List.length_append, List.length_set, List.length_cons, List.length_nil, List.length_map, List.length_range, List.length_take, List.length_drop, List.length_zipWith] at *; omega)) | exact (hM.sl 5 rfl).cellA rfl (by first | omega | (simp only [List.length_replicate, List.length_append, List.length_set, List.length_cons, List.length_nil, List.length_map, List.length_range, List.length_take, List.length_drop, List.length_zipWith] at *; omega)) | exact (hM.sl 6 rfl).cellA rfl (by first | omega | (simp only [List.length_replicate, List.length_append, List.length_set, List.length_cons, List.length_nil, List.length_map, List.length_range, List.length_take, List.length_drop, List.length_zipWith] at *; omega)) | exact (hM.sl 7 rfl).cellA rfl (by first | omega | (simp only [List.length_replicate, List.length_append, List.length_set, List.length_cons, List.length_nil, List.length_map, List.length_range, List.length_take, List.length_drop, List.length_zipWith] at *; omega)) | exact (hM.arg0 (by assumption)).cellA rfl (by first | omega | (simp only [List.length_replicate, List.length_append, List.length_set, List.length_cons, List.length_nil, List.length_map, List.length_range, List.length_take, List.length_drop, List.length_zipWith] at *; omega)) | exact (hM.arg (by assumption) (by assumption)).cellA rfl (by first | omega | (simp only [List.length_replicate, List.length_append, List.length_set, List.length_cons, List.length_nil, List.length_map, List.length_range, List.length_take, List.length_drop, List.length_zipWith] at *; omega))) rfl ?_)
            refine E.on rfl rfl (E.bin rfl rfl rfl rfl ?_)
            refine E.pick rfl rfl rfl <| E.nil <| X.join0 (Sub.cons (by (first | exact leaf_f (by omega) | exact leaf_t (by omega) | exact leaf_d (by omega) | exact leaf_f (by first | (simp [*] <;> fail) | omega) | exact leaf_t (by first | (simp [*] <;> fail) | omega) | exact leaf_d (by first | (simp [*] <;> fail) | omega) | exact leaf_f (by (first | omega | ((try simp only [decide_eq_true_eq, decide_eq_false_iff_not, Bool.not_eq_true', Bool.not_eq_false'] at *); first | omega | (simp_all <;> fail) | (simp_all; omega)))) | exact leaf_t (by (first | omega | ((try simp only [decide_eq_true_eq, decide_eq_false_iff_not, Bool.not_eq_true', Bool.not_eq_false'] at *); first | omega | (simp_all <;> fail) | (simp_all; omega)))) | exact leaf_d (by (first | omega | ((try simp only [decide_eq_true_eq, decide_eq_false_iff_not, Bool.not_eq_true', Bool.not_eq_false'] at *); first | omega | (simp_all <;> fail) | (simp_all; omega)))))) <| Sub.nil _) rfl rfl
          ·
            try simp only [decide_eq_true_eq, decide_eq_false_iff_not, ne_eq, Decidable.not_not] at g37
            refine E.off rfl rfl rfl rfl <| E.off rfl rfl rfl rfl <| E.off rfl rfl rfl rfl <| E.off rfl rfl rfl rfl <| E.off rfl rfl rfl rfl <| E.pick rfl rfl rfl <| E.nil <| X.join0 (Sub.cons (by (first | exact leaf_f (by omega) | exact leaf_t (by omega) | exact leaf_d (by omega) | exact leaf_f (by first | (simp [*] <;> fail) | omega) | exact leaf_t (by first | (simp [*] <;> fail) | omega) | exact leaf_d (by first | (simp [*] <;> fail) | omega) | exact leaf_f (by (first | omega | ((try simp only [decide_eq_true_eq, decide_eq_false_iff_not, Bool.not_eq_true', Bool.not_eq_false'] at *); first | omega | (simp_all <;> fail) | (simp_all; omega)))) | exact leaf_t (by (first | omega | ((try simp only [decide_eq_true_eq, decide_eq_false_iff_not, Bool.not_eq_true', Bool.not_eq_false'] at *); first | omega | (simp_all <;> fail) | (simp_all; omega)))) | exact leaf_d (by (first | omega | ((try simp only [decide_eq_true_eq, decide_eq_false_iff_not, Bool.not_eq_true', Bool.not_eq_false'] at *); first | omega | (simp_all <;> fail) | (simp_all; omega)))))) <| Sub.nil _) rfl rfl
        refine C.cond' rfl (fun hC2 => ?_) (fun hC2 => ?_)
        ·
          have hd : DD dk dark i := by show dk[i]? = _; rw [List.getElem?_eq_getElem hi', hC2.1]
          have hF : Fst (DD dk dark) (RR W eight dk dark) i := hP.first hi' Cl.refl (fun _ _ _ => Cl.trans) hd (List.getElem?_eq_getElem hil) hC2.2
          refine C.seq <| C.region <| E.asg rfl rfl <| E.nil <| X.next <| C.seq <| C.region <| ?_
          refine E.loadA rfl Try.underlying24 rfl (by kernel_rfl) (by first | exact hM.bat 0 rfl | exact hM.bat 1 rfl | exact hM.bat 2 rfl | exact hM.bat 3 rfl | exact hM.bat 4 rfl | exact hM.bat 5 rfl | exact hM.bat 6 rfl | exact hM.bat 7 rfl) rfl ?_
          refine E.mv rfl rfl <| E.mv rfl rfl <| E.mv rfl rfl <| ?_
          refine E.lenv rfl (RdF.shape (by first | exact hM.slF 0 rfl | exact hM.slF 1 rfl | exact hM.slF 2 rfl | exact hM.slF 3 rfl | exact hM.slF 4 rfl | exact hM.slF 5 rfl | exact hM.slF 6 rfl | exact hM.slF 7 rfl | exact hM.argF0 (by assumption) | exact hM.argF (by assumption) (by assumption) | assumption)) Try.underlying28 rfl ?_
          refine E.mv rfl rfl <| ?_
          have hvd : vl.ownBlock ≠ some (bs vd).1 := fun e => by
            have h1 := World.block_lt_of_cell? w _ (hr.cell hi')
            have h2 := (hM.mine 1 _ rfl _ e).elim (fun h => h.elim) id
            have : (bs vd).1 < w.heap.size := h1
            omega
          have hcls : ∀ j : Nat, dk[j]? = some dk[i] → Cl (Ed W eight dk dk[i] dk.length) i j → ∃ z, lab[j]? = some z ∧ z < 0 := fun j hj hc => by
            rw [hC2.1] at hj hc
            exact ⟨-1, hP.new j i (List.getElem?_eq_some_iff.1 hj).1 hj hF hc (Nat.le_refl _), by decide⟩
          refine E.call rfl rfl (spread_ret W Ht vd dk vl lab i (bl.length : Int) eight 0 _ hW hH hn hn0 (hM.arg0 hr) (hM.own 1 rfl) hvd hP.len hi' (by omega) hcls) ?_
          rintro _ w9 ⟨vf, lab1, found, rfl, ol, of, hL, g⟩
          have hM := hM.growNew 1 rfl ol of g
          try dsimp only [List.nil_append, List.cons_append, List.set_cons_zero, List.set_cons_succ, repl] at hM
          rw [hC2.1] at hL
          have hall := hL.all (by omega) hn
          have hfp : 0 < found.length := by have := List.mem_of_getElem? hL.head; exact List.length_pos_of_mem this
          have hf0 : found[0] = i := by have := hL.head; rw [List.getElem?_eq_getElem hfp] at this; exact Option.some.inj this
          have hfl := hL.le
          refine E.mv rfl rfl <| E.ext rfl rfl rfl <| E.ext rfl rfl rfl <| E.asg rfl rfl <| E.asg rfl rfl <| E.nil <| X.next <| C.region <| E.mv rfl rfl <| ?_
          refine E.loadA rfl Try.underlying24 rfl (by kernel_rfl) (by first | exact hM.bat 0 rfl | exact hM.bat 1 rfl | exact hM.bat 2 rfl | exact hM.bat 3 rfl | exact hM.bat 4 rfl | exact hM.bat 5 rfl | exact hM.bat 6 rfl | exact hM.bat 7 rfl) rfl ?_
          refine E.mv rfl rfl <| ?_
          refine E.call rfl rfl (rblob_ret W Ht vd vf found _ hW hH (hM.sl 3 rfl) hfp (by omega) (fun p hp => by have := (List.getElem?_eq_some_iff.1 ((hall p).1 hp).1).1; omega)) ?_
          rintro _ w10 ⟨b, rfl, hB, ha, hfx, hfy, m⟩
          have hM := hM.call m
          try dsimp only [List.nil_append, List.cons_append, List.set_cons_zero, List.set_cons_succ, repl] at hM
          first
            | refine E.pushFM 0 b hM rfl rfl rfl Try.underlying28 elem_Tapi_Blob rfl (by decide) (by simp [Bl.cells, Value.oneCell']) ?_ ?_ (by simp) rfl rfl ?_
            | refine E.pushFM 1 b hM rfl rfl rfl Try.underlying28 elem_Tapi_Blob rfl (by decide) (by simp [Bl.cells, Value.oneCell']) ?_ ?_ (by simp) rfl rfl ?_
            | refine E.pushFM 2 b hM rfl rfl rfl Try.underlying28 elem_Tapi_Blob rfl (by decide) (by simp [Bl.cells, Value.oneCell']) ?_ ?_ (by simp) rfl rfl ?_
            | refine E.pushFM 3 b hM rfl rfl rfl Try.underlying28 elem_Tapi_Blob rfl (by decide) (by simp [Bl.cells, Value.oneCell']) ?_ ?_ (by simp) rfl rfl ?_
            | refine E.pushFM 4 b hM rfl rfl rfl Try.underlying28 elem_Tapi_Blob rfl (by decide) (by simp [Bl.cells, Value.oneCell']) ?_ ?_ (by simp) rfl rfl ?_
            | refine E.pushFM 5 b hM rfl rfl rfl Try.underlying28 elem_Tapi_Blob rfl (by decide) (by simp [Bl.cells, Value.oneCell']) ?_ ?_ (by simp) rfl rfl ?_
            | refine E.pushFM 6 b hM rfl rfl rfl Try.underlying28 elem_Tapi_Blob rfl (by decide) (by simp [Bl.cells, Value.oneCell']) ?_ ?_ (by simp) rfl rfl ?_
            | refine E.pushFM 7 b hM rfl rfl rfl Try.underlying28 elem_Tapi_Blob rfl (by decide) (by simp [Bl.cells, Value.oneCell']) ?_ ?_ (by simp) rfl rfl ?_
          · exact (by first | omega | (simp only [List.length_replicate, List.length_append, List.length_set, List.length_cons, List.length_nil, List.length_map, List.length_range, List.length_take, List.length_drop, List.length_zipWith] at *; omega))
          · exact (by first | omega | (simp only [List.length_replicate, List.length_append, List.length_set, List.length_cons, List.length_nil, List.length_map, List.length_range, List.length_take, List.length_drop, List.length_zipWith] at *; omega))
          intro v59 u59 w6 hM
          try dsimp only [List.nil_append, List.cons_append, List.set_cons_zero, List.set_cons_succ, repl] at hM
          refine E.asg rfl rfl <| E.nil <| X.outN <| ?_
          have hmem : ∀ j, j ∈ found ↔ j < dk.length ∧ DD dk dark j ∧ RR W eight dk dark i j := fun j => by
            rw [hall j]
            exact ⟨fun h => ⟨(List.getElem?_eq_some_iff.1 h.1).1, h⟩, fun h => h.2⟩
          have hPn := hP.next (fun _ _ => Cl.symm) (fun _ _ _ => Cl.trans) hF (lab' := lab1) (by rw [hL.len, hP.len]) (fun j hj hD hR => by rw [hL.lab j, if_pos ((hmem j).2 ⟨hj, hD, hR⟩), List.getElem?_eq_getElem (by rw [hP.len]; exact hj), ← hnum]; rfl) (fun j hj hno => by rw [hL.lab j, if_neg (fun h => hno ((hmem j).1 h).2)]) (b := b) (Bx.spec hL.nodup hmem (fun _ _ => Cl.symm) Cl.refl hF hi' hB ha (by rw [hfx, hf0]) (by rw [hfy, hf0]))

          refine X.join4 _ lab1 _ (bl ++ [b]) (Sub.cons rfl <| Sub.cons rfl <| Sub.nil _) rfl ⟨hM.pick [0, 1, 2] (by decide), hPn⟩
        ·

          refine C.skip <| X.outN <| X.join4 vl lab vb bl (Sub.cons rfl <| Sub.cons rfl <| Sub.nil _) rfl ⟨hM, hP.skip hi' Cl.refl (fun ⟨h1, z, h2, h3⟩ => hC2 ⟨by have h1' : dk[i]? = some dark := h1; rw [List.getElem?_eq_getElem hi'] at h1'; exact Option.some.inj h1', by rw [List.getElem?_eq_getElem hil] at h2; cases h2; exact h3⟩)⟩
      rintro vl lab vb bl w7 ⟨hM, hP⟩
      refine C.region <| E.mv rfl rfl <| ?_
      refine E.add rfl rfl (by omega) rfl ?_

      refine E.asg rfl rfl <| E.nil <| X.again5 vl lab vb bl (i + 1) (Sub.cons rfl <| Sub.cons rfl <| Sub.cons rfl <| Sub.nil _) rfl ⟨hM, by omega, hP⟩ (by omega)
    ·
      obtain rfl : i = dk.length := by omega
      refine C.exit <| X.exitT <| X.exitT <| X.outE <| X.next <| C.seq <| C.region <| E.mv rfl rfl <| E.mv rfl rfl <| E.asg rfl rfl <| E.asg rfl rfl <| E.nil <| X.next <| C.ret <| ret2 rfl rfl rfl ?_
      exact ⟨vl, vb, lab, bl, rfl, hP.labelled Cl.refl (fun _ _ _ => Cl.trans), hM.pick [1, 2] (by decide)⟩

end Go.Proofs.Ytnnmebpahickhaa
