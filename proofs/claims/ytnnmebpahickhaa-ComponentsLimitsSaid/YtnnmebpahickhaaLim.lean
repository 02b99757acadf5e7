/- law 38: Limits. -/
import Derived.Test.YtnnmebpahickhaaLimM
namespace Go.Proofs.Ytnnmebpahickhaa
set_option linter.unusedSimpArgs false
set_option linter.unusedVariables false
open Go.RowKit Sym Uf

theorem wf_u8n {x : Int} (h : (Lit.int .u8 x).wf = true) : ∃ c : Nat, x = (c : Int) ∧ c < 256 := by
  have : 0 ≤ x ∧ x ≤ 255 := by simpa [Lit.wf, IntKind.min, IntKind.max, IntKind.signed, IntKind.bits] using h
  exact ⟨x.toNat, by omega, by omega⟩
theorem lim_e0 {n x y : Nat} (h1 : (x : Int) % 2 = 0) (h2 : (y : Int) % 2 = 0) : decide (x % 2 = 0 ∧ y % 2 = 0 ∧ y / 2 * 256 + x / 2 < n) = decide ((y : Int) / 2 * 256 + (x : Int) / 2 < (n : Int)) := decide_eq_decide.2 (by omega)
theorem lim_e1 {n x y : Nat} (h2 : ¬ (y : Int) % 2 = 0) : decide (x % 2 = 0 ∧ y % 2 = 0 ∧ y / 2 * 256 + x / 2 < n) = false := decide_eq_false (by omega)
theorem lim_e2 {n x y : Nat} (h2 : ¬ (x : Int) % 2 = 0) : decide (x % 2 = 0 ∧ y % 2 = 0 ∧ y / 2 * 256 + x / 2 < n) = false := decide_eq_false (by omega)
set_option maxHeartbeats 4000000 in
theorem ComponentsLimits_ret (c : Nat) (eight : Bool) (w : World) (hc : c < 256) :
    Ret Try.prog 6 #[.int .u8 (c : Int), .bool eight] w fun v w' => v = .bool true ∧ Ext w w' := by
  have hM := M.start w
  refine enter Try.func6 rfl (by kernel_rfl) Try.ntmps6 rfl ?_
  refine C.seq <| C.region <| E.asg rfl rfl <| E.nil <| X.next <| C.seq <| C.region <| E.mv rfl rfl <| ?_
  refine E.rem rfl rfl (by omega) (IntWalk.rem_in _ _ (by omega)) rfl ?_
  refine E.conv rfl Try.underlying5 Try.underlying3 (IntWalk.i64_in _ (by omega)) rfl ?_
  refine E.add rfl rfl (by omega) rfl ?_
  obtain ⟨n, hn⟩ : ∃ n : Nat, n = 65535 + c % 4 := ⟨_, rfl⟩
  rw [show ((65535 : Int) + (c : Int) % 4) = (n : Int) from by omega]
  refine E.asg rfl rfl <| E.nil <| X.next <| C.seq <| C.region <| ?_
  refine E.buildC (cs := [_, _, _]) [.int .i64 0, .int .i64 0, .slice none 0 0] [0, 1] rfl rfl (by kernel_rfl) rfl ?_
  refine E.allocM (z := .agg #[.int .i64 0, .int .i64 0, .slice none 0 0]) (cs := [.int .i64 0, .int .i64 0, .slice none 0 0]) hM (by kernel_rfl) rfl rfl ?_
  intro b6 w0 hM
  try dsimp only [List.nil_append, List.cons_append, List.set_cons_zero, List.set_cons_succ, repl] at hM
  first
    | refine E.storeAM 0 hM rfl rfl rfl (by kernel_rfl) rfl ?_ ?_
    | refine E.storeAM 1 hM rfl rfl rfl (by kernel_rfl) rfl ?_ ?_
    | refine E.storeAM 2 hM rfl rfl rfl (by kernel_rfl) rfl ?_ ?_
    | refine E.storeAM 3 hM rfl rfl rfl (by kernel_rfl) rfl ?_ ?_
    | refine E.storeAM 4 hM rfl rfl rfl (by kernel_rfl) rfl ?_ ?_
    | refine E.storeAM 5 hM rfl rfl rfl (by kernel_rfl) rfl ?_ ?_
    | refine E.storeAM 6 hM rfl rfl rfl (by kernel_rfl) rfl ?_ ?_
    | refine E.storeAM 7 hM rfl rfl rfl (by kernel_rfl) rfl ?_ ?_
  · exact ones (by first | rfl | exact (hM.sl 0 rfl).one | exact (hM.sl 1 rfl).one | exact (hM.sl 2 rfl).one | exact (hM.sl 3 rfl).one | exact (hM.sl 4 rfl).one | exact (hM.sl 5 rfl).one | exact (hM.sl 6 rfl).one | exact (hM.sl 7 rfl).one | exact (hM.slF 0 rfl).one | exact (hM.slF 1 rfl).one | exact (hM.slF 2 rfl).one | exact (hM.slF 3 rfl).one | exact (hM.slF 4 rfl).one | exact (hM.slF 5 rfl).one | exact (hM.slF 6 rfl).one | exact (hM.slF 7 rfl).one | exact RdL.one (by assumption) | exact RdF.one (by assumption) | assumption) <| ones (by first | rfl | exact (hM.sl 0 rfl).one | exact (hM.sl 1 rfl).one | exact (hM.sl 2 rfl).one | exact (hM.sl 3 rfl).one | exact (hM.sl 4 rfl).one | exact (hM.sl 5 rfl).one | exact (hM.sl 6 rfl).one | exact (hM.sl 7 rfl).one | exact (hM.slF 0 rfl).one | exact (hM.slF 1 rfl).one | exact (hM.slF 2 rfl).one | exact (hM.slF 3 rfl).one | exact (hM.slF 4 rfl).one | exact (hM.slF 5 rfl).one | exact (hM.slF 6 rfl).one | exact (hM.slF 7 rfl).one | exact RdL.one (by assumption) | exact RdF.one (by assumption) | assumption) <| ones (by first | rfl | exact (hM.sl 0 rfl).one | exact (hM.sl 1 rfl).one | exact (hM.sl 2 rfl).one | exact (hM.sl 3 rfl).one | exact (hM.sl 4 rfl).one | exact (hM.sl 5 rfl).one | exact (hM.sl 6 rfl).one | exact (hM.sl 7 rfl).one | exact (hM.slF 0 rfl).one | exact (hM.slF 1 rfl).one | exact (hM.slF 2 rfl).one | exact (hM.slF 3 rfl).one | exact (hM.slF 4 rfl).one | exact (hM.slF 5 rfl).one | exact (hM.slF 6 rfl).one | exact (hM.slF 7 rfl).one | exact RdL.one (by assumption) | exact RdF.one (by assumption) | assumption) <| ones_nil
  intro w1 hM
  try dsimp only [List.nil_append, List.cons_append, List.set_cons_zero, List.set_cons_succ, repl] at hM
  refine E.nil <| X.next <| C.seq <| C.seq <| C.region <| E.asg rfl rfl <| E.nil <| X.next <| C.block <| ?_
  have hM := hM.nil Value.bool 4
  try dsimp only [List.nil_append, List.cons_append] at hM

  refine C.loop2 [(0, _), (1, _), (5, _), (6, _)] rfl (fun (y : Nat) (vd : Value) => [(7, i64 y)]) (fun (y : Nat) (vd : Value) w' => M w (Nn) w' [Rg.blk b6 24 [i64 512, i64 515, vd], Rg.sl Value.bool 4 vd (tab (y * 512) (lim n))] ∧ y ≤ 515) (fun (y : Nat) (vd : Value) => 515 - y) 0 nilS ?_ ?_ ?_
  · exact Sub.cons rfl <| Sub.nil _
  · exact ⟨hM, Nat.zero_le _⟩
  rintro y vd w2 ⟨hM, hy⟩
  refine C.seq <| C.seq <| C.region <| E.mv rfl rfl <| ?_
  refine E.fld (o := 1) (sz := 0) rfl Try.underlying24 rfl rfl (by kernel_rfl) rfl ?_
  refine E.load rfl Try.underlying3 rfl (by first | exact hM.bcell 0 rfl rfl | exact hM.bcell 1 rfl rfl | exact hM.bcell 2 rfl rfl | exact hM.bcell 3 rfl rfl | exact hM.bcell 4 rfl rfl | exact hM.bcell 5 rfl rfl | exact hM.bcell 6 rfl rfl | exact hM.bcell 7 rfl rfl) rfl ?_
  refine E.bin rfl rfl rfl rfl <| E.nil <| X.next <| ?_
  refine C.cond' rfl (fun hC0 => ?_) (fun hC0 => ?_)
  ·
    have hy' : y < 515 := by omega
    refine C.skip <| X.next <| C.seq <| C.block <| C.seq <| C.region <| E.asg rfl rfl <| E.nil <| X.next <| C.block <| ?_

    refine C.loop2 [(0, _), (1, _), (5, _), (6, _), (7, _)] rfl (fun (x : Nat) (vd : Value) => [(8, i64 x)]) (fun (x : Nat) (vd : Value) w' => M w (Nn) w' [Rg.blk b6 24 [i64 512, i64 515, vd], Rg.sl Value.bool 4 vd (tab (y * 512 + x) (lim n))] ∧ x ≤ 512) (fun (x : Nat) (vd : Value) => 512 - x) 0 vd ?_ ?_ ?_
    · exact Sub.cons rfl <| Sub.nil _
    · exact ⟨by rw [Nat.add_zero]; exact hM, Nat.zero_le _⟩
    rintro x vd w3 ⟨hM, hx⟩
    refine C.seq <| C.seq <| C.region <| E.mv rfl rfl <| ?_
    refine E.fld (o := 0) (sz := 0) rfl Try.underlying24 rfl rfl (by kernel_rfl) rfl ?_
    refine E.load rfl Try.underlying3 rfl (by first | exact hM.bcell 0 rfl rfl | exact hM.bcell 1 rfl rfl | exact hM.bcell 2 rfl rfl | exact hM.bcell 3 rfl rfl | exact hM.bcell 4 rfl rfl | exact hM.bcell 5 rfl rfl | exact hM.bcell 6 rfl rfl | exact hM.bcell 7 rfl rfl) rfl ?_
    refine E.bin rfl rfl rfl rfl <| E.nil <| X.next <| ?_
    refine C.cond' rfl (fun hC1 => ?_) (fun hC1 => ?_)
    ·
      have hx' : x < 512 := by omega
      have htl := tab_len (y * 512 + x) (lim n)
      refine C.skip <| X.next <| C.seq <| C.block <| C.region <| ?_
      refine E.fld (o := 2) (sz := 0) rfl Try.underlying24 rfl rfl (by kernel_rfl) rfl ?_
      refine E.load rfl Try.underlying22 rfl (by first | exact hM.bcell 0 rfl rfl | exact hM.bcell 1 rfl rfl | exact hM.bcell 2 rfl rfl | exact hM.bcell 3 rfl rfl | exact hM.bcell 4 rfl rfl | exact hM.bcell 5 rfl rfl | exact hM.bcell 6 rfl rfl | exact hM.bcell 7 rfl rfl) rfl ?_
      refine E.mv rfl rfl <| ?_
      refine E.rem rfl rfl (by omega) (IntWalk.rem_in _ _ (by omega)) rfl ?_
      refine E.bin rfl rfl rfl rfl <| E.mv rfl rfl <| ?_
      refine E.split 38 rfl (fun g38 => ?_) (fun g38 => ?_)
      ·
        try simp only [decide_eq_true_eq, decide_eq_false_iff_not, ne_eq, Decidable.not_not, Bool.not_eq_true', Bool.not_eq_false'] at g38
        refine E.on rfl rfl (E.mv rfl rfl ?_)
        refine E.on rfl rfl (E.rem rfl rfl (by omega) (IntWalk.rem_in _ _ (by omega)) rfl ?_)
        refine E.on rfl rfl (E.bin rfl rfl rfl rfl ?_)
        refine E.pick rfl rfl rfl <| E.mv rfl rfl <| ?_
        refine E.split 43 rfl (fun g43 => ?_) (fun g43 => ?_)
        ·
          try simp only [decide_eq_true_eq, decide_eq_false_iff_not, ne_eq, Decidable.not_not, Bool.not_eq_true', Bool.not_eq_false'] at g43
          refine E.on rfl rfl (E.mv rfl rfl ?_)
          refine E.on rfl rfl (E.quo rfl rfl (by omega) (IntWalk.i64_quo _ _ (by omega)) rfl ?_)
          refine E.on rfl rfl (E.mul rfl rfl (by omega) rfl ?_)
          refine E.on rfl rfl (E.mv rfl rfl ?_)
          refine E.on rfl rfl (E.quo rfl rfl (by omega) (IntWalk.i64_quo _ _ (by omega)) rfl ?_)
          refine E.on rfl rfl (E.add rfl rfl (by omega) rfl ?_)
          refine E.on rfl rfl (E.mv rfl rfl ?_)
          refine E.on rfl rfl (E.bin rfl rfl rfl rfl ?_)
          refine E.pick rfl rfl rfl <| ?_
          first
            | refine E.pushM 0 _ hM rfl rfl rfl Try.underlying22 elem_Tbool rfl ?_ ?_ (by simp) rfl rfl ?_
            | refine E.pushM 1 _ hM rfl rfl rfl Try.underlying22 elem_Tbool rfl ?_ ?_ (by simp) rfl rfl ?_
            | refine E.pushM 2 _ hM rfl rfl rfl Try.underlying22 elem_Tbool rfl ?_ ?_ (by simp) rfl rfl ?_
            | refine E.pushM 3 _ hM rfl rfl rfl Try.underlying22 elem_Tbool rfl ?_ ?_ (by simp) rfl rfl ?_
            | refine E.pushM 4 _ hM rfl rfl rfl Try.underlying22 elem_Tbool rfl ?_ ?_ (by simp) rfl rfl ?_
            | refine E.pushM 5 _ hM rfl rfl rfl Try.underlying22 elem_Tbool rfl ?_ ?_ (by simp) rfl rfl ?_
            | refine E.pushM 6 _ hM rfl rfl rfl Try.underlying22 elem_Tbool rfl ?_ ?_ (by simp) rfl rfl ?_
            | refine E.pushM 7 _ hM rfl rfl rfl Try.underlying22 elem_Tbool rfl ?_ ?_ (by simp) rfl rfl ?_
          · exact (by first | omega | (simp only [List.length_replicate, List.length_append, List.length_set, List.length_cons, List.length_nil, List.length_map, List.length_range, List.length_take, List.length_drop, List.length_zipWith] at *; omega))
          · exact (by first | omega | (simp only [List.length_replicate, List.length_append, List.length_set, List.length_cons, List.length_nil, List.length_map, List.length_range, List.length_take, List.length_drop, List.length_zipWith] at *; omega))
          intro v54 u54 w4 hM
          try dsimp only [List.nil_append, List.cons_append, List.set_cons_zero, List.set_cons_succ, repl] at hM
          refine E.fld (o := 2) (sz := 0) rfl Try.underlying24 rfl rfl (by kernel_rfl) rfl ?_
          first
            | refine E.storeM 0 hM rfl rfl rfl (by kernel_rfl) ?_ rfl ?_
            | refine E.storeM 1 hM rfl rfl rfl (by kernel_rfl) ?_ rfl ?_
            | refine E.storeM 2 hM rfl rfl rfl (by kernel_rfl) ?_ rfl ?_
            | refine E.storeM 3 hM rfl rfl rfl (by kernel_rfl) ?_ rfl ?_
            | refine E.storeM 4 hM rfl rfl rfl (by kernel_rfl) ?_ rfl ?_
            | refine E.storeM 5 hM rfl rfl rfl (by kernel_rfl) ?_ rfl ?_
            | refine E.storeM 6 hM rfl rfl rfl (by kernel_rfl) ?_ rfl ?_
            | refine E.storeM 7 hM rfl rfl rfl (by kernel_rfl) ?_ rfl ?_
          · exact (by first | rfl | exact (hM.sl 0 rfl).one | exact (hM.sl 1 rfl).one | exact (hM.sl 2 rfl).one | exact (hM.sl 3 rfl).one | exact (hM.sl 4 rfl).one | exact (hM.sl 5 rfl).one | exact (hM.sl 6 rfl).one | exact (hM.sl 7 rfl).one | exact (hM.slF 0 rfl).one | exact (hM.slF 1 rfl).one | exact (hM.slF 2 rfl).one | exact (hM.slF 3 rfl).one | exact (hM.slF 4 rfl).one | exact (hM.slF 5 rfl).one | exact (hM.slF 6 rfl).one | exact (hM.slF 7 rfl).one | exact RdL.one (by assumption) | exact RdF.one (by assumption) | assumption)
          intro w5 hM
          try dsimp only [List.nil_append, List.cons_append, List.set_cons_zero, List.set_cons_succ, repl] at hM
          refine E.nil <| X.outN <| X.next <| C.region <| E.mv rfl rfl <| ?_
          refine E.add rfl rfl (by omega) rfl ?_

          refine E.asg rfl rfl <| E.nil <| X.again2 (x + 1) _ (Sub.cons rfl <| Sub.nil _) rfl ⟨by rw [← Nat.add_assoc, tab_succ, lim_at hx', lim_e0 g38 g43]; exact hM, by omega⟩ (by omega)
        ·
          try simp only [decide_eq_true_eq, decide_eq_false_iff_not, ne_eq, Decidable.not_not, Bool.not_eq_true', Bool.not_eq_false'] at g43
          refine E.off rfl rfl rfl rfl <| E.off rfl rfl rfl rfl <| E.off rfl rfl rfl rfl <| E.off rfl rfl rfl rfl <| E.off rfl rfl rfl rfl <| E.off rfl rfl rfl rfl <| E.off rfl rfl rfl rfl <| E.off rfl rfl rfl rfl <| E.pick rfl rfl rfl <| ?_
          first
            | refine E.pushM 0 _ hM rfl rfl rfl Try.underlying22 elem_Tbool rfl ?_ ?_ (by simp) rfl rfl ?_
            | refine E.pushM 1 _ hM rfl rfl rfl Try.underlying22 elem_Tbool rfl ?_ ?_ (by simp) rfl rfl ?_
            | refine E.pushM 2 _ hM rfl rfl rfl Try.underlying22 elem_Tbool rfl ?_ ?_ (by simp) rfl rfl ?_
            | refine E.pushM 3 _ hM rfl rfl rfl Try.underlying22 elem_Tbool rfl ?_ ?_ (by simp) rfl rfl ?_
            | refine E.pushM 4 _ hM rfl rfl rfl Try.underlying22 elem_Tbool rfl ?_ ?_ (by simp) rfl rfl ?_
            | refine E.pushM 5 _ hM rfl rfl rfl Try.underlying22 elem_Tbool rfl ?_ ?_ (by simp) rfl rfl ?_
            | refine E.pushM 6 _ hM rfl rfl rfl Try.underlying22 elem_Tbool rfl ?_ ?_ (by simp) rfl rfl ?_
            | refine E.pushM 7 _ hM rfl rfl rfl Try.underlying22 elem_Tbool rfl ?_ ?_ (by simp) rfl rfl ?_
          · exact (by first | omega | (simp only [List.length_replicate, List.length_append, List.length_set, List.length_cons, List.length_nil, List.length_map, List.length_range, List.length_take, List.length_drop, List.length_zipWith] at *; omega))
          · exact (by first | omega | (simp only [List.length_replicate, List.length_append, List.length_set, List.length_cons, List.length_nil, List.length_map, List.length_range, List.length_take, List.length_drop, List.length_zipWith] at *; omega))
          intro v54 u54 w6 hM
          try dsimp only [List.nil_append, List.cons_append, List.set_cons_zero, List.set_cons_succ, repl] at hM
          refine E.fld (o := 2) (sz := 0) rfl Try.underlying24 rfl rfl (by kernel_rfl) rfl ?_
          first
            | refine E.storeM 0 hM rfl rfl rfl (by kernel_rfl) ?_ rfl ?_
            | refine E.storeM 1 hM rfl rfl rfl (by kernel_rfl) ?_ rfl ?_
            | refine E.storeM 2 hM rfl rfl rfl (by kernel_rfl) ?_ rfl ?_
            | refine E.storeM 3 hM rfl rfl rfl (by kernel_rfl) ?_ rfl ?_
            | refine E.storeM 4 hM rfl rfl rfl (by kernel_rfl) ?_ rfl ?_
            | refine E.storeM 5 hM rfl rfl rfl (by kernel_rfl) ?_ rfl ?_
            | refine E.storeM 6 hM rfl rfl rfl (by kernel_rfl) ?_ rfl ?_
            | refine E.storeM 7 hM rfl rfl rfl (by kernel_rfl) ?_ rfl ?_
          · exact (by first | rfl | exact (hM.sl 0 rfl).one | exact (hM.sl 1 rfl).one | exact (hM.sl 2 rfl).one | exact (hM.sl 3 rfl).one | exact (hM.sl 4 rfl).one | exact (hM.sl 5 rfl).one | exact (hM.sl 6 rfl).one | exact (hM.sl 7 rfl).one | exact (hM.slF 0 rfl).one | exact (hM.slF 1 rfl).one | exact (hM.slF 2 rfl).one | exact (hM.slF 3 rfl).one | exact (hM.slF 4 rfl).one | exact (hM.slF 5 rfl).one | exact (hM.slF 6 rfl).one | exact (hM.slF 7 rfl).one | exact RdL.one (by assumption) | exact RdF.one (by assumption) | assumption)
          intro w7 hM
          try dsimp only [List.nil_append, List.cons_append, List.set_cons_zero, List.set_cons_succ, repl] at hM
          refine E.nil <| X.outN <| X.next <| C.region <| E.mv rfl rfl <| ?_
          refine E.add rfl rfl (by omega) rfl ?_

          refine E.asg rfl rfl <| E.nil <| X.again2 (x + 1) _ (Sub.cons rfl <| Sub.nil _) rfl ⟨by rw [← Nat.add_assoc, tab_succ, lim_at hx', lim_e1 g43]; exact hM, by omega⟩ (by omega)
      ·
        try simp only [decide_eq_true_eq, decide_eq_false_iff_not, ne_eq, Decidable.not_not, Bool.not_eq_true', Bool.not_eq_false'] at g38
        refine E.off rfl rfl rfl rfl <| E.off rfl rfl rfl rfl <| E.off rfl rfl rfl rfl <| E.pick rfl rfl rfl <| E.mv rfl rfl <| E.off rfl rfl rfl rfl <| E.off rfl rfl rfl rfl <| E.off rfl rfl rfl rfl <| E.off rfl rfl rfl rfl <| E.off rfl rfl rfl rfl <| E.off rfl rfl rfl rfl <| E.off rfl rfl rfl rfl <| E.off rfl rfl rfl rfl <| E.pick rfl rfl rfl <| ?_
        first
          | refine E.pushM 0 _ hM rfl rfl rfl Try.underlying22 elem_Tbool rfl ?_ ?_ (by simp) rfl rfl ?_
          | refine E.pushM 1 _ hM rfl rfl rfl Try.underlying22 elem_Tbool rfl ?_ ?_ (by simp) rfl rfl ?_
          | refine E.pushM 2 _ hM rfl rfl rfl Try.underlying22 elem_Tbool rfl ?_ ?_ (by simp) rfl rfl ?_
          | refine E.pushM 3 _ hM rfl rfl rfl Try.underlying22 elem_Tbool rfl ?_ ?_ (by simp) rfl rfl ?_
          | refine E.pushM 4 _ hM rfl rfl rfl Try.underlying22 elem_Tbool rfl ?_ ?_ (by simp) rfl rfl ?_
          | refine E.pushM 5 _ hM rfl rfl rfl Try.underlying22 elem_Tbool rfl ?_ ?_ (by simp) rfl rfl ?_
          | refine E.pushM 6 _ hM rfl rfl rfl Try.underlying22 elem_Tbool rfl ?_ ?_ (by simp) rfl rfl ?_
          | refine E.pushM 7 _ hM rfl rfl rfl Try.underlying22 elem_Tbool rfl ?_ ?_ (by simp) rfl rfl ?_
        · exact (by first | omega | (simp only [List.length_replicate, List.length_append, List.length_set, List.length_cons, List.length_nil, List.length_map, List.length_range, List.length_take, List.length_drop, List.length_zipWith] at *; omega))
        · exact (by first | omega | (simp only [List.length_replicate, List.length_append, List.length_set, List.length_cons, List.length_nil, List.length_map, List.length_range, List.length_take, List.length_drop, List.length_zipWith] at *; omega))
        intro v54 u54 w8 hM
        try dsimp only [List.nil_append, List.cons_append, List.set_cons_zero, List.set_cons_succ, repl] at hM
        refine E.fld (o := 2) (sz := 0) rfl Try.underlying24 rfl rfl (by kernel_rfl) rfl ?_
        first
          | refine E.storeM 0 hM rfl rfl rfl (by kernel_rfl) ?_ rfl ?_
          | refine E.storeM 1 hM rfl rfl rfl (by kernel_rfl) ?_ rfl ?_
          | refine E.storeM 2 hM rfl rfl rfl (by kernel_rfl) ?_ rfl ?_
          | refine E.storeM 3 hM rfl rfl rfl (by kernel_rfl) ?_ rfl ?_
          | refine E.storeM 4 hM rfl rfl rfl (by kernel_rfl) ?_ rfl ?_
          | refine E.storeM 5 hM rfl rfl rfl (by kernel_rfl) ?_ rfl ?_
          | refine E.storeM 6 hM rfl rfl rfl (by kernel_rfl) ?_ rfl ?_
          | refine E.storeM 7 hM rfl rfl rfl (by kernel_rfl) ?_ rfl ?_
        · exact (by first | rfl | exact (hM.sl 0 rfl).one | exact (hM.sl 1 rfl).one | exact (hM.sl 2 rfl).one | exact (hM.sl 3 rfl).one | exact (hM.sl 4 rfl).one | exact (hM.sl 5 rfl).one | exact (hM.sl 6 rfl).one | exact (hM.sl 7 rfl).one | exact (hM.slF 0 rfl).one | exact (hM.slF 1 rfl).one | exact (hM.slF 2 rfl).one | exact (hM.slF 3 rfl).one | exact (hM.slF 4 rfl).one | exact (hM.slF 5 rfl).one | exact (hM.slF 6 rfl).one | exact (hM.slF 7 rfl).one | exact RdL.one (by assumption) | exact RdF.one (by assumption) | assumption)
        intro w9 hM
        try dsimp only [List.nil_append, List.cons_append, List.set_cons_zero, List.set_cons_succ, repl] at hM
        refine E.nil <| X.outN <| X.next <| C.region <| E.mv rfl rfl <| ?_
        refine E.add rfl rfl (by omega) rfl ?_

        refine E.asg rfl rfl <| E.nil <| X.again2 (x + 1) _ (Sub.cons rfl <| Sub.nil _) rfl ⟨by rw [← Nat.add_assoc, tab_succ, lim_at hx', lim_e2 g38]; exact hM, by omega⟩ (by omega)
    ·
      refine C.exit <| X.exitT <| X.exitT <| X.outE <| X.outN <| X.next <| C.region <| E.mv rfl rfl <| ?_
      refine E.add rfl rfl (by omega) rfl ?_

      refine E.asg rfl rfl <| E.nil <| X.again2 (y + 1) vd (Sub.cons rfl <| Sub.nil _) rfl ⟨by rw [Nat.succ_mul]; rw [show x = 512 from by omega] at hM; exact hM, by omega⟩ (by omega)
  ·
    obtain rfl : y = 515 := by omega
    obtain ⟨K, hK⟩ : ∃ K, K = 515 * 512 := ⟨_, rfl⟩
    rw [← hK] at hM
    obtain ⟨dk, hdk⟩ : ∃ dk, dk = tab K (lim n) := ⟨_, rfl⟩
    rw [← hdk] at hM
    refine C.exit <| X.exitT <| X.exitT <| X.outE <| X.next <| C.seq <| C.seq <| C.region <| E.mv rfl rfl <| ?_
    refine E.quo (c := (c : Int) / 4) rfl rfl (by omega) (by rw [Int.tdiv_eq_ediv_of_nonneg (by omega)]; exact IntWalk.u8_in _ (by omega)) rfl ?_
    refine E.rem rfl rfl (by omega) (IntWalk.rem_in _ _ (by omega)) rfl ?_
    refine E.nil <| X.next <| C.block <| C.seq <| C.region <| E.bin rfl rfl rfl rfl <| E.asg rfl rfl <| E.nil <| X.next <| ?_
    refine C.cond rfl (fun hC2 => ?_) (fun hC2 => ?_)
    ·
      refine C.seq <| C.region <| ?_
      refine E.loadA rfl Try.underlying24 rfl (by kernel_rfl) (by first | exact hM.bat 0 rfl | exact hM.bat 1 rfl | exact hM.bat 2 rfl | exact hM.bat 3 rfl | exact hM.bat 4 rfl | exact hM.bat 5 rfl | exact hM.bat 6 rfl | exact hM.bat 7 rfl) rfl ?_
      refine E.mv rfl rfl <| ?_
      refine E.call rfl rfl (Label_ret 512 515 vd dk eight _ (hM.sl 1 rfl)) ?_
      rintro _ w3 ⟨hA, x3⟩
      obtain ⟨va, vb, lab, bl, e, rfl, m, hA⟩ := hA.uni x3
      have hM := hM.call m
      obtain ⟨hA1, hA2⟩ := lim_label (by omega) (by omega) hdk hA
      try dsimp only [List.nil_append, List.cons_append, List.set_cons_zero, List.set_cons_succ, repl] at hM
      refine E.mv rfl rfl <| E.ext rfl rfl rfl <| E.ext rfl rfl rfl <| E.ext rfl rfl rfl <| E.asg rfl rfl <| E.asg rfl rfl <| E.asg rfl rfl <| E.nil <| X.next <| C.seq <| C.seq <| C.region <| E.mv rfl rfl <| E.bin rfl rfl rfl rfl <| E.nil <| X.next <| ?_
      refine C.cond' rfl (fun hC3 => ?_) (fun hC3 => ?_)
      ·
        obtain ⟨rfl, rfl, rfl⟩ := hA1 (by omega)

        refine C.cut0 [] rfl [(4, .bool true)] (fun w' => M w (Nn) w' []) ?_ ?_
        ·
          refine C.region <| E.mv rfl rfl <| E.bin rfl rfl rfl rfl <| E.mv rfl rfl <| ?_
          refine E.split 72 rfl (fun g72 => ?_) (fun g72 => ?_)
          ·
            try simp only [decide_eq_true_eq, decide_eq_false_iff_not, ne_eq, Decidable.not_not, Bool.not_eq_true', Bool.not_eq_false'] at g72
            refine E.on rfl rfl (E.mv rfl rfl ?_)
            refine E.on rfl rfl (E.lenv rfl (Rd.shape (by first | exact hM.sl 0 rfl | exact hM.sl 1 rfl | exact hM.sl 2 rfl | exact hM.sl 3 rfl | exact hM.sl 4 rfl | exact hM.sl 5 rfl | exact hM.sl 6 rfl | exact hM.sl 7 rfl | exact hM.arg0 (by assumption) | exact hM.arg (by assumption) (by assumption) | assumption)) Try.underlying27 rfl ?_)
            refine E.on rfl rfl (E.bin rfl rfl rfl rfl ?_)
            refine E.pick rfl rfl rfl <| E.mv rfl rfl <| ?_
            refine E.split 77 rfl (fun g77 => ?_) (fun g77 => ?_)
            ·
              try simp only [decide_eq_true_eq, decide_eq_false_iff_not, ne_eq, Decidable.not_not, Bool.not_eq_true', Bool.not_eq_false'] at g77
              refine E.on rfl rfl (E.mv rfl rfl ?_)
              refine E.on rfl rfl (E.lenv rfl (RdF.shape (by first | exact hM.slF 0 rfl | exact hM.slF 1 rfl | exact hM.slF 2 rfl | exact hM.slF 3 rfl | exact hM.slF 4 rfl | exact hM.slF 5 rfl | exact hM.slF 6 rfl | exact hM.slF 7 rfl | exact hM.argF0 (by assumption) | exact hM.argF (by assumption) (by assumption) | assumption)) Try.underlying28 rfl ?_)
              refine E.on rfl rfl (E.bin rfl rfl rfl rfl ?_)
              refine E.pick rfl rfl rfl <| E.mv rfl rfl <| ?_
              refine E.split 82 rfl (fun g82 => ?_) (fun g82 => ?_)
              ·
                try simp only [decide_eq_true_eq, decide_eq_false_iff_not, ne_eq, Decidable.not_not, Bool.not_eq_true', Bool.not_eq_false'] at g82
                refine E.on rfl rfl (E.call rfl rfl (ex38_ret _) ?_)
                rintro _ w4 ⟨rfl, x4⟩
                have hM := hM.ext x4
                try dsimp only [List.nil_append, List.cons_append, List.set_cons_zero, List.set_cons_succ, repl] at hM

                refine E.pick rfl rfl rfl <| E.asg rfl rfl <| E.nil <| X.join0  (Sub.cons rfl <| Sub.nil _) rfl (hM.pick [] (by decide))
              ·
                try simp only [decide_eq_true_eq, decide_eq_false_iff_not, ne_eq, Decidable.not_not, Bool.not_eq_true', Bool.not_eq_false'] at g82
                exact absurd g82 (by first | decide | omega | (simp; done))
            ·
              try simp only [decide_eq_true_eq, decide_eq_false_iff_not, ne_eq, Decidable.not_not, Bool.not_eq_true', Bool.not_eq_false'] at g77
              exact absurd g77 (by first | decide | omega | (simp; done))
          ·
            try simp only [decide_eq_true_eq, decide_eq_false_iff_not, ne_eq, Decidable.not_not, Bool.not_eq_true', Bool.not_eq_false'] at g72
            exact absurd g72 (by first | decide | omega | (simp; done))
        rintro  w12 hM
        refine C.ret <| X.retT <| X.retB <| X.retT <| ret1 rfl rfl ?_
        exact ⟨rfl, hM.toExt⟩
      ·
        obtain ⟨rfl, hbl, hba⟩ := hA2 (by omega)
        have hba' := hba (n - 1) (by omega)
        refine C.skip <| X.next <| ?_

        refine C.cut0 [] rfl [(4, .bool true)] (fun w' => M w (Nn) w' []) ?_ ?_
        ·
          refine C.region <| E.mv rfl rfl <| E.bin rfl rfl rfl rfl <| E.mv rfl rfl <| ?_
          refine E.split 87 rfl (fun g87 => ?_) (fun g87 => ?_)
          ·
            try simp only [decide_eq_true_eq, decide_eq_false_iff_not, ne_eq, Decidable.not_not, Bool.not_eq_true', Bool.not_eq_false'] at g87
            refine E.on rfl rfl (E.mv rfl rfl ?_)
            refine E.on rfl rfl (E.lenv rfl (RdF.shape (by first | exact hM.slF 0 rfl | exact hM.slF 1 rfl | exact hM.slF 2 rfl | exact hM.slF 3 rfl | exact hM.slF 4 rfl | exact hM.slF 5 rfl | exact hM.slF 6 rfl | exact hM.slF 7 rfl | exact hM.argF0 (by assumption) | exact hM.argF (by assumption) (by assumption) | assumption)) Try.underlying28 rfl ?_)
            refine E.on rfl rfl (E.mv rfl rfl ?_)
            refine E.on rfl rfl (E.bin rfl rfl rfl rfl ?_)
            refine E.pick rfl rfl rfl <| E.mv rfl rfl <| ?_
            refine E.split 93 rfl (fun g93 => ?_) (fun g93 => ?_)
            ·
              try simp only [decide_eq_true_eq, decide_eq_false_iff_not, ne_eq, Decidable.not_not, Bool.not_eq_true', Bool.not_eq_false'] at g93
              refine E.on rfl rfl (E.mv rfl rfl ?_)
              refine E.on rfl rfl (E.mv rfl rfl ?_)
              refine E.on rfl rfl (E.subN (b := 1) rfl rfl (by first | omega | (simp only [List.length_replicate, List.length_append, List.length_set, List.length_cons, List.length_nil, List.length_map, List.length_range, List.length_take, List.length_drop, List.length_zipWith] at *; omega)) rfl ?_)
              refine E.on rfl rfl (E.idxF (k := _) rfl rfl (by first | exact hM.slF 0 rfl | exact hM.slF 1 rfl | exact hM.slF 2 rfl | exact hM.slF 3 rfl | exact hM.slF 4 rfl | exact hM.slF 5 rfl | exact hM.slF 6 rfl | exact hM.slF 7 rfl | exact hM.argF0 (by assumption) | exact hM.argF (by assumption) (by assumption) | assumption) rfl (by first | omega | (simp only [List.length_replicate, List.length_append, List.length_set, List.length_cons, List.length_nil, List.length_map, List.length_range, List.length_take, List.length_drop, List.length_zipWith] at *; omega)) (by decide) Try.underlying28 (by kernel_rfl) rfl ?_)
              refine E.on rfl rfl (E.fld (o := 4) (sz := 0) rfl Try.underlying38 rfl rfl (by kernel_rfl) rfl ?_)
              refine E.on rfl rfl (E.load rfl Try.underlying3 rfl (by first | exact (hM.slF 0 rfl).atA rfl (by first | omega | (simp only [List.length_replicate, List.length_append, List.length_set, List.length_cons, List.length_nil, List.length_map, List.length_range, List.length_take, List.length_drop, List.length_zipWith] at *; omega)) rfl | exact (hM.slF 1 rfl).atA rfl (by first | omega | (simp only [List.length_replicate, List.length_append, List.length_set, List.length_cons, List.length_nil, List.length_map, List.length_range, List.length_take, List.length_drop, List.length_zipWith] at *; omega)) rfl | exact (hM.slF 2 rfl).atA rfl (by first | omega | (simp only [List.length_replicate, List.length_append, List.length_set, List.length_cons, List.length_nil, List.length_map, List.length_range, List.length_take, List.length_drop, List.length_zipWith] at *; omega)) rfl | exact (hM.slF 3 rfl).atA rfl (by first | omega | (simp only [List.length_replicate, List.length_append, List.length_set, List.length_cons, List.length_nil, List.length_map, List.length_range, List.length_take, List.length_drop, List.length_zipWith] at *; omega)) rfl | exact (hM.slF 4 rfl).atA rfl (by first | omega | (simp only [List.length_replicate, List.length_append, List.length_set, List.length_cons, List.length_nil, List.length_map, List.length_range, List.length_take, List.length_drop, List.length_zipWith] at *; omega)) rfl | exact (hM.slF 5 rfl).atA rfl (by first | omega | (simp only [List.length_replicate, List.length_append, List.length_set, List.length_cons, List.length_nil, List.length_map, List.length_range, List.length_take, List.length_drop, List.length_zipWith] at *; omega)) rfl | exact (hM.slF 6 rfl).atA rfl (by first | omega | (simp only [List.length_replicate, List.length_append, List.length_set, List.length_cons, List.length_nil, List.length_map, List.length_range, List.length_take, List.length_drop, List.length_zipWith] at *; omega)) rfl | exact (hM.slF 7 rfl).atA rfl (by first | omega | (simp only [List.length_replicate, List.length_append, List.length_set, List.length_cons, List.length_nil, List.length_map, List.length_range, List.length_take, List.length_drop, List.length_zipWith] at *; omega)) rfl | exact (hM.argF0 (by assumption)).atA rfl (by first | omega | (simp only [List.length_replicate, List.length_append, List.length_set, List.length_cons, List.length_nil, List.length_map, List.length_range, List.length_take, List.length_drop, List.length_zipWith] at *; omega)) rfl | exact (hM.argF (by assumption) (by assumption)).atA rfl (by first | omega | (simp only [List.length_replicate, List.length_append, List.length_set, List.length_cons, List.length_nil, List.length_map, List.length_range, List.length_take, List.length_drop, List.length_zipWith] at *; omega)) rfl) rfl ?_)
              refine E.on rfl rfl (E.bin rfl rfl rfl rfl ?_)
              refine E.pick rfl rfl rfl <| E.mv rfl rfl <| ?_
              refine E.split 102 rfl (fun g102 => ?_) (fun g102 => ?_)
              ·
                try simp only [decide_eq_true_eq, decide_eq_false_iff_not, ne_eq, Decidable.not_not, Bool.not_eq_true', Bool.not_eq_false'] at g102
                refine E.on rfl rfl (E.call rfl rfl (ex38_ret _) ?_)
                rintro _ w4 ⟨rfl, x4⟩
                have hM := hM.ext x4
                try dsimp only [List.nil_append, List.cons_append, List.set_cons_zero, List.set_cons_succ, repl] at hM

                refine E.pick rfl rfl rfl <| E.asg rfl rfl <| E.nil <| X.join0  (Sub.cons rfl <| Sub.nil _) rfl (hM.pick [] (by decide))
              ·
                try simp only [decide_eq_true_eq, decide_eq_false_iff_not, ne_eq, Decidable.not_not, Bool.not_eq_true', Bool.not_eq_false'] at g102
                exact absurd g102 (by first | decide | omega | (simp; done))
            ·
              try simp only [decide_eq_true_eq, decide_eq_false_iff_not, ne_eq, Decidable.not_not, Bool.not_eq_true', Bool.not_eq_false'] at g93
              exact absurd g93 (by first | decide | omega | (simp; done))
          ·
            try simp only [decide_eq_true_eq, decide_eq_false_iff_not, ne_eq, Decidable.not_not, Bool.not_eq_true', Bool.not_eq_false'] at g87
            exact absurd g87 (by first | decide | omega | (simp; done))
        rintro  w14 hM
        refine C.ret <| X.retB <| X.retT <| ret1 rfl rfl ?_
        exact ⟨rfl, hM.toExt⟩
    ·
      refine C.seq <| C.region <| E.bin rfl rfl rfl rfl <| E.asg rfl rfl <| E.nil <| X.next <| ?_
      refine C.cond rfl (fun hC4 => ?_) (fun hC4 => ?_)
      ·
        refine C.seq <| C.region <| ?_
        refine E.loadA rfl Try.underlying24 rfl (by kernel_rfl) (by first | exact hM.bat 0 rfl | exact hM.bat 1 rfl | exact hM.bat 2 rfl | exact hM.bat 3 rfl | exact hM.bat 4 rfl | exact hM.bat 5 rfl | exact hM.bat 6 rfl | exact hM.bat 7 rfl) rfl ?_
        refine E.call rfl rfl (Euler_ret 512 515 vd dk _ (hM.sl 1 rfl)) ?_
        rintro _ w3 ⟨k, e, rfl, hE, m⟩
        have hM := hM.call m
        obtain ⟨hA1, hA2⟩ := lim_euler (by omega) (by omega) hdk hE
        try dsimp only [List.nil_append, List.cons_append, List.set_cons_zero, List.set_cons_succ, repl] at hM
        refine E.mv rfl rfl <| E.ext rfl rfl rfl <| E.ext rfl rfl rfl <| E.asg rfl rfl <| E.asg rfl rfl <| E.nil <| X.next <| C.seq <| C.seq <| C.region <| E.mv rfl rfl <| E.bin rfl rfl rfl rfl <| E.nil <| X.next <| ?_
        refine C.cond' rfl (fun hC5 => ?_) (fun hC5 => ?_)
        ·
          obtain ⟨rfl, rfl⟩ := hA1 (by omega)

          refine C.cut0 [] rfl [(4, .bool true)] (fun w' => M w (Nn) w' []) ?_ ?_
          ·
            refine C.region <| E.mv rfl rfl <| E.bin rfl rfl rfl rfl <| E.mv rfl rfl <| ?_
            refine E.split 116 rfl (fun g116 => ?_) (fun g116 => ?_)
            ·
              try simp only [decide_eq_true_eq, decide_eq_false_iff_not, ne_eq, Decidable.not_not, Bool.not_eq_true', Bool.not_eq_false'] at g116
              refine E.on rfl rfl (E.mv rfl rfl ?_)
              refine E.on rfl rfl (E.bin rfl rfl rfl rfl ?_)
              refine E.pick rfl rfl rfl <| E.mv rfl rfl <| ?_
              refine E.split 120 rfl (fun g120 => ?_) (fun g120 => ?_)
              ·
                try simp only [decide_eq_true_eq, decide_eq_false_iff_not, ne_eq, Decidable.not_not, Bool.not_eq_true', Bool.not_eq_false'] at g120
                refine E.on rfl rfl (E.call rfl rfl (ex38_ret _) ?_)
                rintro _ w4 ⟨rfl, x4⟩
                have hM := hM.ext x4
                try dsimp only [List.nil_append, List.cons_append, List.set_cons_zero, List.set_cons_succ, repl] at hM

                refine E.pick rfl rfl rfl <| E.asg rfl rfl <| E.nil <| X.join0  (Sub.cons rfl <| Sub.nil _) rfl (hM.pick [] (by decide))
              ·
                try simp only [decide_eq_true_eq, decide_eq_false_iff_not, ne_eq, Decidable.not_not, Bool.not_eq_true', Bool.not_eq_false'] at g120
                exact absurd g120 (by first | decide | omega | (simp; done))
            ·
              try simp only [decide_eq_true_eq, decide_eq_false_iff_not, ne_eq, Decidable.not_not, Bool.not_eq_true', Bool.not_eq_false'] at g116
              exact absurd g116 (by first | decide | omega | (simp; done))
          rintro  w17 hM
          refine C.ret <| X.retT <| X.retB <| X.retT <| ret1 rfl rfl ?_
          exact ⟨rfl, hM.toExt⟩
        ·
          obtain ⟨rfl, rfl⟩ := hA2 (by omega)
          refine C.skip <| X.next <| ?_

          refine C.cut0 [] rfl [(4, .bool true)] (fun w' => M w (Nn) w' []) ?_ ?_
          ·
            refine C.region <| E.mv rfl rfl <| E.bin rfl rfl rfl rfl <| E.mv rfl rfl <| ?_
            refine E.split 125 rfl (fun g125 => ?_) (fun g125 => ?_)
            ·
              try simp only [decide_eq_true_eq, decide_eq_false_iff_not, ne_eq, Decidable.not_not, Bool.not_eq_true', Bool.not_eq_false'] at g125
              refine E.on rfl rfl (E.mv rfl rfl ?_)
              refine E.on rfl rfl (E.mv rfl rfl ?_)
              refine E.on rfl rfl (E.bin rfl rfl rfl rfl ?_)
              refine E.pick rfl rfl rfl <| E.mv rfl rfl <| ?_
              refine E.split 130 rfl (fun g130 => ?_) (fun g130 => ?_)
              ·
                try simp only [decide_eq_true_eq, decide_eq_false_iff_not, ne_eq, Decidable.not_not, Bool.not_eq_true', Bool.not_eq_false'] at g130
                refine E.on rfl rfl (E.call rfl rfl (ex38_ret _) ?_)
                rintro _ w4 ⟨rfl, x4⟩
                have hM := hM.ext x4
                try dsimp only [List.nil_append, List.cons_append, List.set_cons_zero, List.set_cons_succ, repl] at hM

                refine E.pick rfl rfl rfl <| E.asg rfl rfl <| E.nil <| X.join0  (Sub.cons rfl <| Sub.nil _) rfl (hM.pick [] (by decide))
              ·
                try simp only [decide_eq_true_eq, decide_eq_false_iff_not, ne_eq, Decidable.not_not, Bool.not_eq_true', Bool.not_eq_false'] at g130
                exact absurd g130 (by first | decide | omega | (simp; done))
            ·
              try simp only [decide_eq_true_eq, decide_eq_false_iff_not, ne_eq, Decidable.not_not, Bool.not_eq_true', Bool.not_eq_false'] at g125
              exact absurd g125 (by first | decide | omega | (simp; done))
          rintro  w19 hM
          refine C.ret <| X.retB <| X.retT <| ret1 rfl rfl ?_
          exact ⟨rfl, hM.toExt⟩
      ·
        refine C.skip <| X.outN <| X.next <| C.seq <| C.region <| ?_
        refine E.loadA rfl Try.underlying24 rfl (by kernel_rfl) (by first | exact hM.bat 0 rfl | exact hM.bat 1 rfl | exact hM.bat 2 rfl | exact hM.bat 3 rfl | exact hM.bat 4 rfl | exact hM.bat 5 rfl | exact hM.bat 6 rfl | exact hM.bat 7 rfl) rfl ?_
        refine E.call rfl rfl (Despeckle_ret 512 515 vd dk 2 _ (hM.sl 1 rfl)) ?_
        rintro _ w3 ⟨vo3, W3, H3, l3, e3, rfl, hS3, m⟩
        have hM := hM.call m
        obtain ⟨hA1, hA2⟩ := lim_desp (by omega) (by omega) hdk hS3
        try dsimp only [List.nil_append, List.cons_append, List.set_cons_zero, List.set_cons_succ, repl] at hM
        refine E.mv rfl rfl <| E.ext rfl rfl rfl <| E.ext rfl rfl rfl <| ?_
        refine E.allocM (z := .agg #[.int .i64 0, .int .i64 0, .slice none 0 0]) (cs := [.int .i64 0, .int .i64 0, .slice none 0 0]) hM (by kernel_rfl) rfl rfl ?_
        intro b14 w21 hM
        try dsimp only [List.nil_append, List.cons_append, List.set_cons_zero, List.set_cons_succ, repl] at hM
        first
          | refine E.storeAM 0 hM rfl rfl rfl (by kernel_rfl) rfl ?_ ?_
          | refine E.storeAM 1 hM rfl rfl rfl (by kernel_rfl) rfl ?_ ?_
          | refine E.storeAM 2 hM rfl rfl rfl (by kernel_rfl) rfl ?_ ?_
          | refine E.storeAM 3 hM rfl rfl rfl (by kernel_rfl) rfl ?_ ?_
          | refine E.storeAM 4 hM rfl rfl rfl (by kernel_rfl) rfl ?_ ?_
          | refine E.storeAM 5 hM rfl rfl rfl (by kernel_rfl) rfl ?_ ?_
          | refine E.storeAM 6 hM rfl rfl rfl (by kernel_rfl) rfl ?_ ?_
          | refine E.storeAM 7 hM rfl rfl rfl (by kernel_rfl) rfl ?_ ?_
        · exact ones (by first | rfl | exact (hM.sl 0 rfl).one | exact (hM.sl 1 rfl).one | exact (hM.sl 2 rfl).one | exact (hM.sl 3 rfl).one | exact (hM.sl 4 rfl).one | exact (hM.sl 5 rfl).one | exact (hM.sl 6 rfl).one | exact (hM.sl 7 rfl).one | exact (hM.slF 0 rfl).one | exact (hM.slF 1 rfl).one | exact (hM.slF 2 rfl).one | exact (hM.slF 3 rfl).one | exact (hM.slF 4 rfl).one | exact (hM.slF 5 rfl).one | exact (hM.slF 6 rfl).one | exact (hM.slF 7 rfl).one | exact RdL.one (by assumption) | exact RdF.one (by assumption) | assumption) <| ones (by first | rfl | exact (hM.sl 0 rfl).one | exact (hM.sl 1 rfl).one | exact (hM.sl 2 rfl).one | exact (hM.sl 3 rfl).one | exact (hM.sl 4 rfl).one | exact (hM.sl 5 rfl).one | exact (hM.sl 6 rfl).one | exact (hM.sl 7 rfl).one | exact (hM.slF 0 rfl).one | exact (hM.slF 1 rfl).one | exact (hM.slF 2 rfl).one | exact (hM.slF 3 rfl).one | exact (hM.slF 4 rfl).one | exact (hM.slF 5 rfl).one | exact (hM.slF 6 rfl).one | exact (hM.slF 7 rfl).one | exact RdL.one (by assumption) | exact RdF.one (by assumption) | assumption) <| ones (by first | rfl | exact (hM.sl 0 rfl).one | exact (hM.sl 1 rfl).one | exact (hM.sl 2 rfl).one | exact (hM.sl 3 rfl).one | exact (hM.sl 4 rfl).one | exact (hM.sl 5 rfl).one | exact (hM.sl 6 rfl).one | exact (hM.sl 7 rfl).one | exact (hM.slF 0 rfl).one | exact (hM.slF 1 rfl).one | exact (hM.slF 2 rfl).one | exact (hM.slF 3 rfl).one | exact (hM.slF 4 rfl).one | exact (hM.slF 5 rfl).one | exact (hM.slF 6 rfl).one | exact (hM.slF 7 rfl).one | exact RdL.one (by assumption) | exact RdF.one (by assumption) | assumption) <| ones_nil
        intro w22 hM
        try dsimp only [List.nil_append, List.cons_append, List.set_cons_zero, List.set_cons_succ, repl] at hM
        refine E.asg rfl rfl <| E.nil <| X.next <| C.seq <| C.seq <| C.region <| E.mv rfl rfl <| E.bin rfl rfl rfl rfl <| E.nil <| X.next <| ?_
        refine C.cond' rfl (fun hC6 => ?_) (fun hC6 => ?_)
        ·
          obtain ⟨rfl, rfl⟩ := hA1 (by omega)

          refine C.cut0 [] rfl [(4, .bool true)] (fun w' => M w (Nn) w' []) ?_ ?_
          ·
            refine C.region <| E.mv rfl rfl <| E.bin rfl rfl rfl rfl <| E.mv rfl rfl <| ?_
            refine E.split 142 rfl (fun g142 => ?_) (fun g142 => ?_)
            ·
              try simp only [decide_eq_true_eq, decide_eq_false_iff_not, ne_eq, Decidable.not_not, Bool.not_eq_true', Bool.not_eq_false'] at g142
              refine E.on rfl rfl (E.fld (o := 2) (sz := 0) rfl Try.underlying24 rfl rfl (by kernel_rfl) rfl ?_)
              refine E.on rfl rfl (E.load rfl Try.underlying22 rfl (by first | exact hM.bcell 0 rfl rfl | exact hM.bcell 1 rfl rfl | exact hM.bcell 2 rfl rfl | exact hM.bcell 3 rfl rfl | exact hM.bcell 4 rfl rfl | exact hM.bcell 5 rfl rfl | exact hM.bcell 6 rfl rfl | exact hM.bcell 7 rfl rfl) rfl ?_)
              refine E.on rfl rfl (E.lenv rfl (Rd.shape (by first | exact hM.sl 0 rfl | exact hM.sl 1 rfl | exact hM.sl 2 rfl | exact hM.sl 3 rfl | exact hM.sl 4 rfl | exact hM.sl 5 rfl | exact hM.sl 6 rfl | exact hM.sl 7 rfl | exact hM.arg0 (by assumption) | exact hM.arg (by assumption) (by assumption) | assumption)) Try.underlying22 rfl ?_)
              refine E.on rfl rfl (E.bin rfl rfl rfl rfl ?_)
              refine E.pick rfl rfl rfl <| E.mv rfl rfl <| ?_
              refine E.split 148 rfl (fun g148 => ?_) (fun g148 => ?_)
              ·
                try simp only [decide_eq_true_eq, decide_eq_false_iff_not, ne_eq, Decidable.not_not, Bool.not_eq_true', Bool.not_eq_false'] at g148
                refine E.on rfl rfl (E.call rfl rfl (ex38_ret _) ?_)
                rintro _ w4 ⟨rfl, x4⟩
                have hM := hM.ext x4
                try dsimp only [List.nil_append, List.cons_append, List.set_cons_zero, List.set_cons_succ, repl] at hM

                refine E.pick rfl rfl rfl <| E.asg rfl rfl <| E.nil <| X.join0  (Sub.cons rfl <| Sub.nil _) rfl (hM.pick [] (by decide))
              ·
                try simp only [decide_eq_true_eq, decide_eq_false_iff_not, ne_eq, Decidable.not_not, Bool.not_eq_true', Bool.not_eq_false'] at g148
                exact absurd g148 (by first | decide | omega | (simp; done))
            ·
              try simp only [decide_eq_true_eq, decide_eq_false_iff_not, ne_eq, Decidable.not_not, Bool.not_eq_true', Bool.not_eq_false'] at g142
              exact absurd g142 (by first | decide | omega | (simp; done))
          rintro  w24 hM
          refine C.ret <| X.retT <| ret1 rfl rfl ?_
          exact ⟨rfl, hM.toExt⟩
        ·
          obtain ⟨rfl, rfl⟩ := hA2 (by omega)
          refine C.skip <| X.next <| ?_

          refine C.cut0 [] rfl [(4, .bool true)] (fun w' => M w (Nn) w' []) ?_ ?_
          ·
            refine C.region <| E.mv rfl rfl <| E.bin rfl rfl rfl rfl <| E.mv rfl rfl <| ?_
            refine E.split 153 rfl (fun g153 => ?_) (fun g153 => ?_)
            ·
              try simp only [decide_eq_true_eq, decide_eq_false_iff_not, ne_eq, Decidable.not_not, Bool.not_eq_true', Bool.not_eq_false'] at g153
              refine E.on rfl rfl (E.fld (o := 0) (sz := 0) rfl Try.underlying24 rfl rfl (by kernel_rfl) rfl ?_)
              refine E.on rfl rfl (E.load rfl Try.underlying3 rfl (by first | exact hM.bcell 0 rfl rfl | exact hM.bcell 1 rfl rfl | exact hM.bcell 2 rfl rfl | exact hM.bcell 3 rfl rfl | exact hM.bcell 4 rfl rfl | exact hM.bcell 5 rfl rfl | exact hM.bcell 6 rfl rfl | exact hM.bcell 7 rfl rfl) rfl ?_)
              refine E.on rfl rfl (E.fld (o := 0) (sz := 0) rfl Try.underlying24 rfl rfl (by kernel_rfl) rfl ?_)
              refine E.on rfl rfl (E.load rfl Try.underlying3 rfl (by first | exact hM.bcell 0 rfl rfl | exact hM.bcell 1 rfl rfl | exact hM.bcell 2 rfl rfl | exact hM.bcell 3 rfl rfl | exact hM.bcell 4 rfl rfl | exact hM.bcell 5 rfl rfl | exact hM.bcell 6 rfl rfl | exact hM.bcell 7 rfl rfl) rfl ?_)
              refine E.on rfl rfl (E.bin rfl rfl rfl rfl ?_)
              refine E.pick rfl rfl rfl <| E.mv rfl rfl <| ?_
              refine E.split 160 rfl (fun g160 => ?_) (fun g160 => ?_)
              ·
                try simp only [decide_eq_true_eq, decide_eq_false_iff_not, ne_eq, Decidable.not_not, Bool.not_eq_true', Bool.not_eq_false'] at g160
                refine E.on rfl rfl (E.call rfl rfl (ex38_ret _) ?_)
                rintro _ w4 ⟨rfl, x4⟩
                have hM := hM.ext x4
                try dsimp only [List.nil_append, List.cons_append, List.set_cons_zero, List.set_cons_succ, repl] at hM

                refine E.pick rfl rfl rfl <| E.asg rfl rfl <| E.nil <| X.join0  (Sub.cons rfl <| Sub.nil _) rfl (hM.pick [] (by decide))
              ·
                try simp only [decide_eq_true_eq, decide_eq_false_iff_not, ne_eq, Decidable.not_not, Bool.not_eq_true', Bool.not_eq_false'] at g160
                exact absurd g160 (by first | decide | omega | (simp; done))
            ·
              try simp only [decide_eq_true_eq, decide_eq_false_iff_not, ne_eq, Decidable.not_not, Bool.not_eq_true', Bool.not_eq_false'] at g153
              exact absurd g153 (by first | decide | omega | (simp; done))
          rintro  w26 hM
          refine C.ret <| ret1 rfl rfl ?_
          exact ⟨rfl, hM.toExt⟩

end Go.Proofs.Ytnnmebpahickhaa
