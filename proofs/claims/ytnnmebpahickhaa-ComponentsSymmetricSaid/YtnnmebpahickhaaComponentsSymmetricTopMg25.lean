/- Texts of the claim, laid together: Law38a. -/
import Derived.Test.YtnnmebpahickhaaComponentsSymmetricTopMg22
import Derived.Test.YtnnmebpahickhaaComponentsSymmetricTopMg24
/- law 38: bitmap, few, same. -/
namespace Go.Proofs.Ytnnmebpahickhaa
set_option linter.unusedSimpArgs false
set_option linter.unusedVariables false
open Go.RowKit Sym Uf

theorem eqv_Tapi_Blob (w : World) (a0 a1 a2 a3 a4 a5 a6 b0 b1 b2 b3 b4 b5 b6 : Int) : (Op.equal 38 (.agg #[i64 a0, i64 a1, i64 a2, i64 a3, i64 a4, i64 a5, i64 a6]) (.agg #[i64 b0, i64 b1, i64 b2, i64 b3, i64 b4, i64 b5, i64 b6])).run Try.prog w = .ok (decide (((a0 = b0) ∧ (a1 = b1) ∧ (a2 = b2) ∧ (a3 = b3) ∧ True) ∧ (a4 = b4) ∧ ((a5 = b5) ∧ (a6 = b6) ∧ True) ∧ True)) w := (eqS (d := 9999) Try.underlying38 (by kernel_rfl) (eqF_cons (a := (.agg #[i64 a0, i64 a1, i64 a2, i64 a3])) (b := (.agg #[i64 b0, i64 b1, i64 b2, i64 b3])) (by decide) (by kernel_rfl) (by kernel_rfl) (eqS (d := 9998) Try.underlying34 (by kernel_rfl) (eqF_cons (a := (i64 a0)) (b := (i64 b0)) (by decide) (by kernel_rfl) (by kernel_rfl) (eqI 9997 w _ _ Try.underlying3) (eqF_cons (a := (i64 a1)) (b := (i64 b1)) (by decide) (by kernel_rfl) (by kernel_rfl) (eqI 9997 w _ _ Try.underlying3) (eqF_cons (a := (i64 a2)) (b := (i64 b2)) (by decide) (by kernel_rfl) (by kernel_rfl) (eqI 9997 w _ _ Try.underlying3) (eqF_cons (a := (i64 a3)) (b := (i64 b3)) (by decide) (by kernel_rfl) (by kernel_rfl) (eqI 9997 w _ _ Try.underlying3) (eqF_nil 9998 w _ _)))))) (eqF_cons (a := (i64 a4)) (b := (i64 b4)) (by decide) (by kernel_rfl) (by kernel_rfl) (eqI 9998 w _ _ Try.underlying3) (eqF_cons (a := (.agg #[i64 a5, i64 a6])) (b := (.agg #[i64 b5, i64 b6])) (by decide) (by kernel_rfl) (by kernel_rfl) (eqS (d := 9998) Try.underlying36 (by kernel_rfl) (eqF_cons (a := (i64 a5)) (b := (i64 b5)) (by decide) (by kernel_rfl) (by kernel_rfl) (eqI 9997 w _ _ Try.underlying3) (eqF_cons (a := (i64 a6)) (b := (i64 b6)) (by decide) (by kernel_rfl) (by kernel_rfl) (eqI 9997 w _ _ Try.underlying3) (eqF_nil 9998 w _ _)))) (eqF_nil 9999 w _ _)))))
theorem eqT_Tapi_Blob : EqT Try.prog 38 7 := ⟨by kernel_rfl, fun w xs ys h1 h2 => match xs, ys, h1, h2 with
  | [a0, a1, a2, a3, a4, a5, a6], [b0, b1, b2, b3, b4, b5, b6], _, _ => ⟨_, eqv_Tapi_Blob w a0 a1 a2 a3 a4 a5 a6 b0 b1 b2 b3 b4 b5 b6, by simp [and_assoc]⟩⟩
theorem eqv_Tapi_Point (w : World) (a0 a1 b0 b1 : Int) : (Op.equal 36 (.agg #[i64 a0, i64 a1]) (.agg #[i64 b0, i64 b1])).run Try.prog w = .ok (decide ((a0 = b0) ∧ (a1 = b1) ∧ True)) w := (eqS (d := 9999) Try.underlying36 (by kernel_rfl) (eqF_cons (a := (i64 a0)) (b := (i64 b0)) (by decide) (by kernel_rfl) (by kernel_rfl) (eqI 9998 w _ _ Try.underlying3) (eqF_cons (a := (i64 a1)) (b := (i64 b1)) (by decide) (by kernel_rfl) (by kernel_rfl) (eqI 9998 w _ _ Try.underlying3) (eqF_nil 9999 w _ _))))
theorem eqT_Tapi_Point : EqT Try.prog 36 2 := ⟨by kernel_rfl, fun w xs ys h1 h2 => match xs, ys, h1, h2 with
  | [a0, a1], [b0, b1], _, _ => ⟨_, eqv_Tapi_Point w a0 a1 b0 b1, by simp [and_assoc]⟩⟩
/-- the bitmap of a string -/
def bmpf (s : ByteArray) (i : Nat) : Bool := decide (s[i]? = some 49)
def bmp (s : ByteArray) : List Bool := tab s.size (bmpf s)
theorem byte_at (s : ByteArray) {i : Nat} (h : i < s.size) : s[i]? = some s[i] := by simp [h]
theorem bitmap_ret (W Ht : Int) (s : ByteArray) (w : World) (hs : s.size ≤ 1000) :
    Ret Try.prog 34 #[i64 W, i64 Ht, .string s] w fun v w' => ∃ vo, v = mat W Ht vo ∧ M w Nn w' [Rg.sl Value.bool 4 vo (bmp s)] := by
  have hM := M.start w
  refine enter Try.func34 rfl (by kernel_rfl) Try.ntmps34 rfl ?_
  refine C.seq <| C.region <| ?_
  refine E.allocM (z := .agg #[.int .i64 0, .int .i64 0, .slice none 0 0]) (cs := [.int .i64 0, .int .i64 0, .slice none 0 0]) hM (by kernel_rfl) rfl rfl ?_
  intro b6 w0 hM
  try dsimp only [List.nil_append, List.cons_append, List.set_cons_zero, List.set_cons_succ, repl] at hM
  refine E.nil <| X.next <| C.seq <| C.region <| E.mv rfl rfl <| E.mv rfl rfl <| ?_
  refine E.buildC (cs := [_, _, _]) [.int .i64 0, .int .i64 0, .slice none 0 0] [0, 1] rfl rfl (by kernel_rfl) rfl ?_
  refine E.allocM (z := .agg #[.int .i64 0, .int .i64 0, .slice none 0 0]) (cs := [.int .i64 0, .int .i64 0, .slice none 0 0]) hM (by kernel_rfl) rfl rfl ?_
  intro b7 w1 hM
  try dsimp only [List.nil_append, List.cons_append, List.set_cons_zero, List.set_cons_succ, repl] at hM
  first
    | refine E.storeAM 0 hM rfl rfl rfl (by kernel_rfl) rfl ?_ ?_
    | refine E.storeAM 1 hM rfl rfl rfl (by kernel_rfl) rfl ?_ ?_
    | refine E.storeAM 2 hM rfl rfl rfl (by kernel_rfl) rfl ?_ ?_
    | refine E.storeAM 3 hM rfl rfl rfl (by kernel_rfl) rfl ?_ ?_
    | refine E.storeAM 4 hM rfl rfl rfl (by kernel_rfl) rfl ?_ ?_
    | refine E.storeAM 5 hM rfl rfl rfl (by kernel_rfl) rfl ?_ ?_
    | refine E.storeAM 6 hM rfl rfl rfl (by kernel_rfl) rfl ?_ ?_
    | refine E.storeAM 7 hM rfl rfl rfl (by kernel_rfl) rfl ?_ ?_
  · exact ones (by first | rfl | exact (hM.sl 0 rfl).one | exact (hM.sl 1 rfl).one | exact (hM.sl 2 rfl).one | exact (hM.sl 3 rfl).one | exact (hM.sl 4 rfl).one | exact (hM.sl 5 rfl).one | exact (hM.sl 6 rfl).one | exact (hM.sl 7 rfl).one | exact (hM.slF 0 rfl).one | exact (hM.slF 1 rfl).one | exact (hM.slF 2 rfl).one | exact (hM.slF 3 rfl).one | exact (hM.slF 4 rfl).one | exact (hM.slF 5 rfl).one | exact (hM.slF 6 rfl).one | exact (hM.slF 7 rfl).one | exact RdL.one (by assumption) | exact RdF.one (by assumption) | assumption) <| ones (by first | rfl | exact (hM.sl 0 rfl).one | exact (hM.sl 1 rfl).one | exact (hM.sl 2 rfl).one | exact (hM.sl 3 rfl).one | exact (hM.sl 4 rfl).one | exact (hM.sl 5 rfl).one | exact (hM.sl 6 rfl).one | exact (hM.sl 7 rfl).one | exact (hM.slF 0 rfl).one | exact (hM.slF 1 rfl).one | exact (hM.slF 2 rfl).one | exact (hM.slF 3 rfl).one | exact (hM.slF 4 rfl).one | exact (hM.slF 5 rfl).one | exact (hM.slF 6 rfl).one | exact (hM.slF 7 rfl).one | exact RdL.one (by assumption) | exact RdF.one (by assumption) | assumption) <| ones (by first | rfl | exact (hM.sl 0 rfl).one | exact (hM.sl 1 rfl).one | exact (hM.sl 2 rfl).one | exact (hM.sl 3 rfl).one | exact (hM.sl 4 rfl).one | exact (hM.sl 5 rfl).one | exact (hM.sl 6 rfl).one | exact (hM.sl 7 rfl).one | exact (hM.slF 0 rfl).one | exact (hM.slF 1 rfl).one | exact (hM.slF 2 rfl).one | exact (hM.slF 3 rfl).one | exact (hM.slF 4 rfl).one | exact (hM.slF 5 rfl).one | exact (hM.slF 6 rfl).one | exact (hM.slF 7 rfl).one | exact RdL.one (by assumption) | exact RdF.one (by assumption) | assumption) <| ones_nil
  intro w2 hM
  try dsimp only [List.nil_append, List.cons_append, List.set_cons_zero, List.set_cons_succ, repl] at hM
  refine E.nil <| X.next <| C.seq <| C.seq <| C.region <| E.asg rfl rfl <| E.nil <| X.next <| C.block <| ?_
  have hM := hM.nil Value.bool 4

  refine C.loop2 [(2, _), (6, _), (7, _)] rfl (fun (vo : Value) (i : Nat) => [(8, i64 i)]) (fun (vo : Value) (i : Nat) w' => M w (Nn) w' [Rg.blk b6 24 [i64 0, i64 0, nilS], Rg.blk b7 24 [i64 W, i64 Ht, vo], Rg.sl Value.bool 4 vo (tab i (bmpf s))] ∧ i ≤ s.size) (fun (vo : Value) (i : Nat) => s.size - i) nilS 0 ?_ ?_ ?_
  · exact Sub.cons rfl <| Sub.nil _
  · exact ⟨hM, Nat.zero_le _⟩
  rintro vo i w3 ⟨hM, hi⟩
  refine C.seq <| C.seq <| C.region <| E.mv rfl rfl <| E.mv rfl rfl <| E.lenS rfl Try.underlying9 rfl <| E.bin rfl rfl rfl rfl <| E.nil <| X.next <| ?_
  refine C.cond' rfl (fun hC0 => ?_) (fun hC0 => ?_)
  ·
    have hi' : i < s.size := by omega
    have htl := tab_len i (bmpf s)
    have hdf : bmpf s i = decide (((s[i]).toNat : Int) = 49) := by
      unfold bmpf
      rw [byte_at s hi']
      refine decide_eq_decide.2 ⟨fun h => by rw [Option.some.inj h]; rfl, fun h => congrArg some (UInt8.toNat_inj.1 (by show s[i].toNat = 49; omega))⟩
    refine C.skip <| X.next <| C.seq <| C.block <| C.heldM hM [0] (by decide) (by kernel_rfl) fun wh4 hM hS => ?_
    refine H.takeV 0 rfl rfl (by kernel_rfl) (by kernel_rfl) (by kernel_rfl) hS (Y.fld (o := 2) (sz := 0) rfl Try.underlying24 rfl rfl (by kernel_rfl)) (fun w' hM => Y.fld (o := 2) (sz := 0) rfl Try.underlying24 rfl rfl (by kernel_rfl)) rfl ?_
    refine H.take 2 rfl rfl (by kernel_rfl) (by kernel_rfl) (by kernel_rfl) hS (fun w' hM => Y.mv rfl) rfl ?_
    refine H.take 3 rfl rfl (by kernel_rfl) (by kernel_rfl) (by kernel_rfl) hS (fun w' hM => Y.mv rfl) rfl ?_
    refine H.takeV 4 rfl rfl (by kernel_rfl) (by kernel_rfl) (by kernel_rfl) hS (Y.idxS i s[i] rfl rfl rfl (byte_at s hi') Try.underlying9) (fun w' hM => Y.idxS i s[i] rfl rfl rfl (byte_at s hi') Try.underlying9) rfl ?_
    refine H.take 5 rfl rfl (by kernel_rfl) (by kernel_rfl) (by kernel_rfl) hS (fun w' hM => Y.bin rfl rfl rfl) rfl ?_
    refine H.two 1 6 rfl rfl (by kernel_rfl) ?_ ?_
    ·
      refine E.load rfl Try.underlying22 rfl (by first | exact hM.bcell 0 rfl rfl | exact hM.bcell 1 rfl rfl | exact hM.bcell 2 rfl rfl | exact hM.bcell 3 rfl rfl | exact hM.bcell 4 rfl rfl | exact hM.bcell 5 rfl rfl | exact hM.bcell 6 rfl rfl | exact hM.bcell 7 rfl rfl) rfl ?_
      have hS := hM.pick [0] (by decide)
      refine H.back hS ?_
      refine H.only 6 rfl (by kernel_rfl) ?_
      refine E.mk1M (enc := Value.bool) _ hM rfl Try.underlying22 elem_Tbool rfl rfl ?_
      intro v24 w5 hM
      try dsimp only [List.nil_append, List.cons_append, List.set_cons_zero, List.set_cons_succ, repl] at hM
      have hS := hM.pick [0] (by decide)
      refine H.back hS ?_
      refine H.only 7 rfl (by kernel_rfl) ?_
      first
        | refine E.appendM 0 hM rfl rfl rfl Try.underlying22 elem_Tbool (by first | exact hM.sl 0 rfl | exact hM.sl 1 rfl | exact hM.sl 2 rfl | exact hM.sl 3 rfl | exact hM.sl 4 rfl | exact hM.sl 5 rfl | exact hM.sl 6 rfl | exact hM.sl 7 rfl | exact hM.arg0 (by assumption) | exact hM.arg (by assumption) (by assumption) | assumption) ?_ ?_ ?_ rfl ?_
        | refine E.appendM 1 hM rfl rfl rfl Try.underlying22 elem_Tbool (by first | exact hM.sl 0 rfl | exact hM.sl 1 rfl | exact hM.sl 2 rfl | exact hM.sl 3 rfl | exact hM.sl 4 rfl | exact hM.sl 5 rfl | exact hM.sl 6 rfl | exact hM.sl 7 rfl | exact hM.arg0 (by assumption) | exact hM.arg (by assumption) (by assumption) | assumption) ?_ ?_ ?_ rfl ?_
        | refine E.appendM 2 hM rfl rfl rfl Try.underlying22 elem_Tbool (by first | exact hM.sl 0 rfl | exact hM.sl 1 rfl | exact hM.sl 2 rfl | exact hM.sl 3 rfl | exact hM.sl 4 rfl | exact hM.sl 5 rfl | exact hM.sl 6 rfl | exact hM.sl 7 rfl | exact hM.arg0 (by assumption) | exact hM.arg (by assumption) (by assumption) | assumption) ?_ ?_ ?_ rfl ?_
        | refine E.appendM 3 hM rfl rfl rfl Try.underlying22 elem_Tbool (by first | exact hM.sl 0 rfl | exact hM.sl 1 rfl | exact hM.sl 2 rfl | exact hM.sl 3 rfl | exact hM.sl 4 rfl | exact hM.sl 5 rfl | exact hM.sl 6 rfl | exact hM.sl 7 rfl | exact hM.arg0 (by assumption) | exact hM.arg (by assumption) (by assumption) | assumption) ?_ ?_ ?_ rfl ?_
        | refine E.appendM 4 hM rfl rfl rfl Try.underlying22 elem_Tbool (by first | exact hM.sl 0 rfl | exact hM.sl 1 rfl | exact hM.sl 2 rfl | exact hM.sl 3 rfl | exact hM.sl 4 rfl | exact hM.sl 5 rfl | exact hM.sl 6 rfl | exact hM.sl 7 rfl | exact hM.arg0 (by assumption) | exact hM.arg (by assumption) (by assumption) | assumption) ?_ ?_ ?_ rfl ?_
        | refine E.appendM 5 hM rfl rfl rfl Try.underlying22 elem_Tbool (by first | exact hM.sl 0 rfl | exact hM.sl 1 rfl | exact hM.sl 2 rfl | exact hM.sl 3 rfl | exact hM.sl 4 rfl | exact hM.sl 5 rfl | exact hM.sl 6 rfl | exact hM.sl 7 rfl | exact hM.arg0 (by assumption) | exact hM.arg (by assumption) (by assumption) | assumption) ?_ ?_ ?_ rfl ?_
        | refine E.appendM 6 hM rfl rfl rfl Try.underlying22 elem_Tbool (by first | exact hM.sl 0 rfl | exact hM.sl 1 rfl | exact hM.sl 2 rfl | exact hM.sl 3 rfl | exact hM.sl 4 rfl | exact hM.sl 5 rfl | exact hM.sl 6 rfl | exact hM.sl 7 rfl | exact hM.arg0 (by assumption) | exact hM.arg (by assumption) (by assumption) | assumption) ?_ ?_ ?_ rfl ?_
        | refine E.appendM 7 hM rfl rfl rfl Try.underlying22 elem_Tbool (by first | exact hM.sl 0 rfl | exact hM.sl 1 rfl | exact hM.sl 2 rfl | exact hM.sl 3 rfl | exact hM.sl 4 rfl | exact hM.sl 5 rfl | exact hM.sl 6 rfl | exact hM.sl 7 rfl | exact hM.arg0 (by assumption) | exact hM.arg (by assumption) (by assumption) | assumption) ?_ ?_ ?_ rfl ?_
      · exact fun _ => rfl
      · exact (by first | omega | (simp only [List.length_replicate, List.length_append, List.length_set, List.length_cons, List.length_nil, List.length_map, List.length_range, List.length_take, List.length_drop, List.length_zipWith] at *; omega))
      · exact (by first | omega | (simp only [List.length_replicate, List.length_append, List.length_set, List.length_cons, List.length_nil, List.length_map, List.length_range, List.length_take, List.length_drop, List.length_zipWith] at *; omega))
      intro v25 w6 hM
      try dsimp only [List.nil_append, List.cons_append, List.set_cons_zero, List.set_cons_succ, repl] at hM
      have hS := hM.pick [0] (by decide)
      refine H.back hS ?_
      refine H.takeV 8 rfl rfl (by kernel_rfl) (by kernel_rfl) (by kernel_rfl) hS (Y.fld (o := 2) (sz := 0) rfl Try.underlying24 rfl rfl (by kernel_rfl)) (fun w' hM => Y.fld (o := 2) (sz := 0) rfl Try.underlying24 rfl rfl (by kernel_rfl)) rfl ?_
      refine H.only 9 rfl (by kernel_rfl) ?_
      first
        | refine E.storeM 0 hM rfl rfl rfl (by kernel_rfl) ?_ rfl ?_
        | refine E.storeM 1 hM rfl rfl rfl (by kernel_rfl) ?_ rfl ?_
        | refine E.storeM 2 hM rfl rfl rfl (by kernel_rfl) ?_ rfl ?_
        | refine E.storeM 3 hM rfl rfl rfl (by kernel_rfl) ?_ rfl ?_
        | refine E.storeM 4 hM rfl rfl rfl (by kernel_rfl) ?_ rfl ?_
        | refine E.storeM 5 hM rfl rfl rfl (by kernel_rfl) ?_ rfl ?_
        | refine E.storeM 6 hM rfl rfl rfl (by kernel_rfl) ?_ rfl ?_
        | refine E.storeM 7 hM rfl rfl rfl (by kernel_rfl) ?_ rfl ?_
      · exact (by first | rfl | exact (hM.sl 0 rfl).one | exact (hM.sl 1 rfl).one | exact (hM.sl 2 rfl).one | exact (hM.sl 3 rfl).one | exact (hM.sl 4 rfl).one | exact (hM.sl 5 rfl).one | exact (hM.sl 6 rfl).one | exact (hM.sl 7 rfl).one | exact (hM.slF 0 rfl).one | exact (hM.slF 1 rfl).one | exact (hM.slF 2 rfl).one | exact (hM.slF 3 rfl).one | exact (hM.slF 4 rfl).one | exact (hM.slF 5 rfl).one | exact (hM.slF 6 rfl).one | exact (hM.slF 7 rfl).one | exact RdL.one (by assumption) | exact RdF.one (by assumption) | assumption)
      intro w7 hM
      try dsimp only [List.nil_append, List.cons_append, List.set_cons_zero, List.set_cons_succ, repl] at hM
      have hS := hM.pick [0] (by decide)
      refine H.back hS ?_
      refine H.done (by kernel_rfl) ?_
      refine X.outN <| X.next <| C.region <| E.mv rfl rfl <| ?_
      refine E.add rfl rfl (by omega) rfl ?_

      refine E.asg rfl rfl <| E.nil <| X.again2 _ (i + 1) (Sub.cons rfl <| Sub.nil _) rfl ⟨by rw [tab_succ, hdf]; exact hM.pick [0, 1, 2] (by decide), by omega⟩ (by omega)
    ·
      refine E.mk1M (enc := Value.bool) _ hM rfl Try.underlying22 elem_Tbool rfl rfl ?_
      intro v24 w8 hM
      try dsimp only [List.nil_append, List.cons_append, List.set_cons_zero, List.set_cons_succ, repl] at hM
      have hS := hM.pick [0] (by decide)
      refine H.back hS ?_
      refine H.only 1 rfl (by kernel_rfl) ?_
      refine E.load rfl Try.underlying22 rfl (by first | exact hM.bcell 0 rfl rfl | exact hM.bcell 1 rfl rfl | exact hM.bcell 2 rfl rfl | exact hM.bcell 3 rfl rfl | exact hM.bcell 4 rfl rfl | exact hM.bcell 5 rfl rfl | exact hM.bcell 6 rfl rfl | exact hM.bcell 7 rfl rfl) rfl ?_
      have hS := hM.pick [0] (by decide)
      refine H.back hS ?_
      refine H.only 7 rfl (by kernel_rfl) ?_
      first
        | refine E.appendM 0 hM rfl rfl rfl Try.underlying22 elem_Tbool (by first | exact hM.sl 0 rfl | exact hM.sl 1 rfl | exact hM.sl 2 rfl | exact hM.sl 3 rfl | exact hM.sl 4 rfl | exact hM.sl 5 rfl | exact hM.sl 6 rfl | exact hM.sl 7 rfl | exact hM.arg0 (by assumption) | exact hM.arg (by assumption) (by assumption) | assumption) ?_ ?_ ?_ rfl ?_
        | refine E.appendM 1 hM rfl rfl rfl Try.underlying22 elem_Tbool (by first | exact hM.sl 0 rfl | exact hM.sl 1 rfl | exact hM.sl 2 rfl | exact hM.sl 3 rfl | exact hM.sl 4 rfl | exact hM.sl 5 rfl | exact hM.sl 6 rfl | exact hM.sl 7 rfl | exact hM.arg0 (by assumption) | exact hM.arg (by assumption) (by assumption) | assumption) ?_ ?_ ?_ rfl ?_
        | refine E.appendM 2 hM rfl rfl rfl Try.underlying22 elem_Tbool (by first | exact hM.sl 0 rfl | exact hM.sl 1 rfl | exact hM.sl 2 rfl | exact hM.sl 3 rfl | exact hM.sl 4 rfl | exact hM.sl 5 rfl | exact hM.sl 6 rfl | exact hM.sl 7 rfl | exact hM.arg0 (by assumption) | exact hM.arg (by assumption) (by assumption) | assumption) ?_ ?_ ?_ rfl ?_
        | refine E.appendM 3 hM rfl rfl rfl Try.underlying22 elem_Tbool (by first | exact hM.sl 0 rfl | exact hM.sl 1 rfl | exact hM.sl 2 rfl | exact hM.sl 3 rfl | exact hM.sl 4 rfl | exact hM.sl 5 rfl | exact hM.sl 6 rfl | exact hM.sl 7 rfl | exact hM.arg0 (by assumption) | exact hM.arg (by assumption) (by assumption) | assumption) ?_ ?_ ?_ rfl ?_
        | refine E.appendM 4 hM rfl rfl rfl Try.underlying22 elem_Tbool (by first | exact hM.sl 0 rfl | exact hM.sl 1 rfl | exact hM.sl 2 rfl | exact hM.sl 3 rfl | exact hM.sl 4 rfl | exact hM.sl 5 rfl | exact hM.sl 6 rfl | exact hM.sl 7 rfl | exact hM.arg0 (by assumption) | exact hM.arg (by assumption) (by assumption) | assumption) ?_ ?_ ?_ rfl ?_
        | refine E.appendM 5 hM rfl rfl rfl Try.underlying22 elem_Tbool (by first | exact hM.sl 0 rfl | exact hM.sl 1 rfl | exact hM.sl 2 rfl | exact hM.sl 3 rfl | exact hM.sl 4 rfl | exact hM.sl 5 rfl | exact hM.sl 6 rfl | exact hM.sl 7 rfl | exact hM.arg0 (by assumption) | exact hM.arg (by assumption) (by assumption) | assumption) ?_ ?_ ?_ rfl ?_
        | refine E.appendM 6 hM rfl rfl rfl Try.underlying22 elem_Tbool (by first | exact hM.sl 0 rfl | exact hM.sl 1 rfl | exact hM.sl 2 rfl | exact hM.sl 3 rfl | exact hM.sl 4 rfl | exact hM.sl 5 rfl | exact hM.sl 6 rfl | exact hM.sl 7 rfl | exact hM.arg0 (by assumption) | exact hM.arg (by assumption) (by assumption) | assumption) ?_ ?_ ?_ rfl ?_
        | refine E.appendM 7 hM rfl rfl rfl Try.underlying22 elem_Tbool (by first | exact hM.sl 0 rfl | exact hM.sl 1 rfl | exact hM.sl 2 rfl | exact hM.sl 3 rfl | exact hM.sl 4 rfl | exact hM.sl 5 rfl | exact hM.sl 6 rfl | exact hM.sl 7 rfl | exact hM.arg0 (by assumption) | exact hM.arg (by assumption) (by assumption) | assumption) ?_ ?_ ?_ rfl ?_
      · exact fun _ => rfl
      · exact (by first | omega | (simp only [List.length_replicate, List.length_append, List.length_set, List.length_cons, List.length_nil, List.length_map, List.length_range, List.length_take, List.length_drop, List.length_zipWith] at *; omega))
      · exact (by first | omega | (simp only [List.length_replicate, List.length_append, List.length_set, List.length_cons, List.length_nil, List.length_map, List.length_range, List.length_take, List.length_drop, List.length_zipWith] at *; omega))
      intro v25 w9 hM
      try dsimp only [List.nil_append, List.cons_append, List.set_cons_zero, List.set_cons_succ, repl] at hM
      have hS := hM.pick [0] (by decide)
      refine H.back hS ?_
      refine H.takeV 8 rfl rfl (by kernel_rfl) (by kernel_rfl) (by kernel_rfl) hS (Y.fld (o := 2) (sz := 0) rfl Try.underlying24 rfl rfl (by kernel_rfl)) (fun w' hM => Y.fld (o := 2) (sz := 0) rfl Try.underlying24 rfl rfl (by kernel_rfl)) rfl ?_
      refine H.only 9 rfl (by kernel_rfl) ?_
      first
        | refine E.storeM 0 hM rfl rfl rfl (by kernel_rfl) ?_ rfl ?_
        | refine E.storeM 1 hM rfl rfl rfl (by kernel_rfl) ?_ rfl ?_
        | refine E.storeM 2 hM rfl rfl rfl (by kernel_rfl) ?_ rfl ?_
        | refine E.storeM 3 hM rfl rfl rfl (by kernel_rfl) ?_ rfl ?_
        | refine E.storeM 4 hM rfl rfl rfl (by kernel_rfl) ?_ rfl ?_
        | refine E.storeM 5 hM rfl rfl rfl (by kernel_rfl) ?_ rfl ?_
        | refine E.storeM 6 hM rfl rfl rfl (by kernel_rfl) ?_ rfl ?_
        | refine E.storeM 7 hM rfl rfl rfl (by kernel_rfl) ?_ rfl ?_
      · exact (by first | rfl | exact (hM.sl 0 rfl).one | exact (hM.sl 1 rfl).one | exact (hM.sl 2 rfl).one | exact (hM.sl 3 rfl).one | exact (hM.sl 4 rfl).one | exact (hM.sl 5 rfl).one | exact (hM.sl 6 rfl).one | exact (hM.sl 7 rfl).one | exact (hM.slF 0 rfl).one | exact (hM.slF 1 rfl).one | exact (hM.slF 2 rfl).one | exact (hM.slF 3 rfl).one | exact (hM.slF 4 rfl).one | exact (hM.slF 5 rfl).one | exact (hM.slF 6 rfl).one | exact (hM.slF 7 rfl).one | exact RdL.one (by assumption) | exact RdF.one (by assumption) | assumption)
      intro w10 hM
      try dsimp only [List.nil_append, List.cons_append, List.set_cons_zero, List.set_cons_succ, repl] at hM
      have hS := hM.pick [0] (by decide)
      refine H.back hS ?_
      refine H.done (by kernel_rfl) ?_
      refine X.outN <| X.next <| C.region <| E.mv rfl rfl <| ?_
      refine E.add rfl rfl (by omega) rfl ?_

      refine E.asg rfl rfl <| E.nil <| X.again2 _ (i + 1) (Sub.cons rfl <| Sub.nil _) rfl ⟨by rw [tab_succ, hdf]; exact hM.pick [0, 1, 2] (by decide), by omega⟩ (by omega)
  ·
    obtain rfl : i = s.size := by omega
    refine C.exit <| X.exitT <| X.exitT <| X.outE <| X.next <| C.seq <| C.region <| ?_
    refine E.loadA rfl Try.underlying24 rfl (by kernel_rfl) (by first | exact hM.bat 0 rfl | exact hM.bat 1 rfl | exact hM.bat 2 rfl | exact hM.bat 3 rfl | exact hM.bat 4 rfl | exact hM.bat 5 rfl | exact hM.bat 6 rfl | exact hM.bat 7 rfl) rfl ?_
    first
      | refine E.storeAM 0 hM rfl rfl rfl (by kernel_rfl) rfl ?_ ?_
      | refine E.storeAM 1 hM rfl rfl rfl (by kernel_rfl) rfl ?_ ?_
      | refine E.storeAM 2 hM rfl rfl rfl (by kernel_rfl) rfl ?_ ?_
      | refine E.storeAM 3 hM rfl rfl rfl (by kernel_rfl) rfl ?_ ?_
      | refine E.storeAM 4 hM rfl rfl rfl (by kernel_rfl) rfl ?_ ?_
      | refine E.storeAM 5 hM rfl rfl rfl (by kernel_rfl) rfl ?_ ?_
      | refine E.storeAM 6 hM rfl rfl rfl (by kernel_rfl) rfl ?_ ?_
      | refine E.storeAM 7 hM rfl rfl rfl (by kernel_rfl) rfl ?_ ?_
    · exact ones (by first | rfl | exact (hM.sl 0 rfl).one | exact (hM.sl 1 rfl).one | exact (hM.sl 2 rfl).one | exact (hM.sl 3 rfl).one | exact (hM.sl 4 rfl).one | exact (hM.sl 5 rfl).one | exact (hM.sl 6 rfl).one | exact (hM.sl 7 rfl).one | exact (hM.slF 0 rfl).one | exact (hM.slF 1 rfl).one | exact (hM.slF 2 rfl).one | exact (hM.slF 3 rfl).one | exact (hM.slF 4 rfl).one | exact (hM.slF 5 rfl).one | exact (hM.slF 6 rfl).one | exact (hM.slF 7 rfl).one | exact RdL.one (by assumption) | exact RdF.one (by assumption) | assumption) <| ones (by first | rfl | exact (hM.sl 0 rfl).one | exact (hM.sl 1 rfl).one | exact (hM.sl 2 rfl).one | exact (hM.sl 3 rfl).one | exact (hM.sl 4 rfl).one | exact (hM.sl 5 rfl).one | exact (hM.sl 6 rfl).one | exact (hM.sl 7 rfl).one | exact (hM.slF 0 rfl).one | exact (hM.slF 1 rfl).one | exact (hM.slF 2 rfl).one | exact (hM.slF 3 rfl).one | exact (hM.slF 4 rfl).one | exact (hM.slF 5 rfl).one | exact (hM.slF 6 rfl).one | exact (hM.slF 7 rfl).one | exact RdL.one (by assumption) | exact RdF.one (by assumption) | assumption) <| ones (by first | rfl | exact (hM.sl 0 rfl).one | exact (hM.sl 1 rfl).one | exact (hM.sl 2 rfl).one | exact (hM.sl 3 rfl).one | exact (hM.sl 4 rfl).one | exact (hM.sl 5 rfl).one | exact (hM.sl 6 rfl).one | exact (hM.sl 7 rfl).one | exact (hM.slF 0 rfl).one | exact (hM.slF 1 rfl).one | exact (hM.slF 2 rfl).one | exact (hM.slF 3 rfl).one | exact (hM.slF 4 rfl).one | exact (hM.slF 5 rfl).one | exact (hM.slF 6 rfl).one | exact (hM.slF 7 rfl).one | exact RdL.one (by assumption) | exact RdF.one (by assumption) | assumption) <| ones_nil
    intro w11 hM
    try dsimp only [List.nil_append, List.cons_append, List.set_cons_zero, List.set_cons_succ, repl] at hM
    refine E.nil <| X.next <| C.ret <| retA rfl rfl Try.underlying24 rfl (by first | exact hM.blk 0 rfl | exact hM.blk 1 rfl | exact hM.blk 2 rfl | exact hM.blk 3 rfl | exact hM.blk 4 rfl | exact hM.blk 5 rfl | exact hM.blk 6 rfl | exact hM.blk 7 rfl) (by kernel_rfl) ?_
    exact ⟨_, rfl, hM.pick [2] (by decide)⟩

theorem few_ret (W Ht : Int) (vd : Value) (n : Nat) (w : World) (hv : ∃ a cap, vd = .slice a n cap) :
    Ret Try.prog 12 #[mat W Ht vd] w fun v w' => v = .bool (decide (n ≤ 1500)) ∧ Ext w w' := by
  obtain ⟨c0, cap0, rfl⟩ := hv
  have hM := M.start w
  refine enter Try.func12 rfl (by kernel_rfl) Try.ntmps12 rfl ?_
  refine C.seq <| C.region <| ?_
  refine E.boxM hM rfl rfl rfl ?_
  intro b1 w0 hM
  try dsimp only [List.nil_append, List.cons_append, List.set_cons_zero, List.set_cons_succ, repl] at hM
  refine E.asg rfl rfl <| E.nil <| X.next <| C.seq <| C.region <| ?_
  refine E.fld (o := 2) (sz := 0) rfl Try.underlying24 rfl rfl (by kernel_rfl) rfl ?_
  refine E.load rfl Try.underlying22 rfl (by first | exact hM.bcell 0 rfl rfl | exact hM.bcell 1 rfl rfl | exact hM.bcell 2 rfl rfl | exact hM.bcell 3 rfl rfl | exact hM.bcell 4 rfl rfl | exact hM.bcell 5 rfl rfl | exact hM.bcell 6 rfl rfl | exact hM.bcell 7 rfl rfl) rfl ?_
  refine E.lenv rfl ⟨_, _, rfl⟩ Try.underlying22 rfl ?_
  refine E.bin rfl rfl rfl rfl <| E.asg rfl rfl <| E.nil <| X.next <| C.ret <| ret1 rfl rfl ?_
  exact ⟨congrArg Value.bool (decide_eq_decide.2 (by omega)), hM.toExt⟩

theorem same_ret (va vb : Value) (l m : List Int) (w : World) (hr : RdL i64 w va l) (hs : RdL i64 w vb m) :
    Ret Try.prog 16 #[va, vb] w fun v w' => v = .bool (decide (l = m)) ∧ Ext w w' := by
  have hM := M.start w
  refine enter Try.func16 rfl (by kernel_rfl) Try.ntmps16 rfl ?_
  refine C.seq <| C.region <| E.asg rfl rfl <| E.nil <| X.next <| C.seq <| C.seq <| C.region <| E.mv rfl rfl <| ?_
  refine E.lenv rfl (Rd.shape (by first | exact hM.sl 0 rfl | exact hM.sl 1 rfl | exact hM.sl 2 rfl | exact hM.sl 3 rfl | exact hM.sl 4 rfl | exact hM.sl 5 rfl | exact hM.sl 6 rfl | exact hM.sl 7 rfl | exact hM.arg0 (by assumption) | exact hM.arg (by assumption) (by assumption) | assumption)) Try.underlying27 rfl ?_
  refine E.mv rfl rfl <| ?_
  refine E.lenv rfl (Rd.shape (by first | exact hM.sl 0 rfl | exact hM.sl 1 rfl | exact hM.sl 2 rfl | exact hM.sl 3 rfl | exact hM.sl 4 rfl | exact hM.sl 5 rfl | exact hM.sl 6 rfl | exact hM.sl 7 rfl | exact hM.arg0 (by assumption) | exact hM.arg (by assumption) (by assumption) | assumption)) Try.underlying27 rfl ?_
  refine E.bin rfl rfl rfl rfl <| E.nil <| X.next <| ?_
  refine C.cond' rfl (fun hC0 => ?_) (fun hC0 => ?_)
  ·
    have hne : l ≠ m := fun e => hC0 (by rw [e])
    refine C.seq <| C.region <| E.asg rfl rfl <| E.nil <| X.next <| C.ret <| X.retT <| ret1 rfl rfl ?_
    exact ⟨by rw [decide_eq_false hne], hM.toExt⟩
  ·
    have hl : l.length = m.length := by omega
    have hlle := hr.le
    refine C.skip <| X.next <| C.seq <| C.seq <| C.region <| E.asg rfl rfl <| E.nil <| X.next <| C.block <| ?_

    refine C.loop1 [(0, _), (1, _)] rfl (fun (i : Nat) => [(5, i64 i)]) (fun (i : Nat) w' => M w (Nn) w' [] ∧ i ≤ l.length ∧ ∀ j, j < i → l[j]? = m[j]?) (fun (i : Nat) => l.length - i) 0 ?_ ?_ ?_
    · exact Sub.cons rfl <| Sub.nil _
    · exact ⟨hM, Nat.zero_le _, fun j hj => by omega⟩
    rintro i w0 ⟨hM, hi, hI⟩
    refine C.seq <| C.seq <| C.region <| E.mv rfl rfl <| E.mv rfl rfl <| ?_
    refine E.lenv rfl (Rd.shape (by first | exact hM.sl 0 rfl | exact hM.sl 1 rfl | exact hM.sl 2 rfl | exact hM.sl 3 rfl | exact hM.sl 4 rfl | exact hM.sl 5 rfl | exact hM.sl 6 rfl | exact hM.sl 7 rfl | exact hM.arg0 (by assumption) | exact hM.arg (by assumption) (by assumption) | assumption)) Try.underlying27 rfl ?_
    refine E.bin rfl rfl rfl rfl <| E.nil <| X.next <| ?_
    refine C.cond' rfl (fun hC1 => ?_) (fun hC1 => ?_)
    ·
      have hi' : i < l.length := by omega
      have him : i < m.length := by omega
      refine C.skip <| X.next <| C.seq <| C.block <| C.seq <| C.drawn (by kernel_rfl) (by kernel_rfl) <| Q.mv rfl rfl <| Q.mv rfl rfl <| ?_
      refine Q.idx1 (k := _) rfl rfl (by first | exact hM.sl 0 rfl | exact hM.sl 1 rfl | exact hM.sl 2 rfl | exact hM.sl 3 rfl | exact hM.sl 4 rfl | exact hM.sl 5 rfl | exact hM.sl 6 rfl | exact hM.sl 7 rfl | exact hM.arg0 (by assumption) | exact hM.arg (by assumption) (by assumption) | assumption) rfl (by first | omega | (simp only [List.length_replicate, List.length_append, List.length_set, List.length_cons, List.length_nil, List.length_map, List.length_range, List.length_take, List.length_drop, List.length_zipWith] at *; omega)) Try.underlying27 (by kernel_rfl) rfl ?_
      refine Q.load rfl Try.underlying3 rfl (by first | exact (hM.sl 0 rfl).cellA rfl (by first | omega | (simp only [List.length_replicate, List.length_append, List.length_set, List.length_cons, List.length_nil, List.length_map, List.length_range, List.length_take, List.length_drop, List.length_zipWith] at *; omega)) | exact (hM.sl 1 rfl).cellA rfl (by first | omega | (simp only [List.length_replicate, List.length_append, List.length_set, List.length_cons, List.length_nil, List.length_map, List.length_range, List.length_take, List.length_drop, List.length_zipWith] at *; omega)) | exact (hM.sl 2 rfl).cellA rfl (by first | omega | (simp only [List.length_replicate, List.length_append, List.length_set, List.length_cons, List.length_nil, List.length_map, List.length_range, List.length_take, List.length_drop, List.length_zipWith] at *; omega)) | exact (hM.sl 3 rfl).cellA rfl (by first | omega | (simp only [List.length_replicate, List.length_append, List.length_set, List.length_cons, List.length_nil, List.length_map, List.length_range, List.length_take, List.length_drop, List.length_zipWith] at *; omega)) | exact (hM.sl 4 rfl).cellA rfl (by first | omega | (simp only [List.length_replicate, List.length_append, List.length_set, List.length_cons, List.length_nil, List.length_map, List.length_range, List.length_take, List.length_drop, List.length_zipWith] at *; omega)) | exact (hM.sl 5 rfl).cellA rfl (by first | omega | (simp only [List.length_replicate, List.length_append, List.length_set, List.length_cons, List.length_nil, List.length_map, List.length_range, List.length_take, List.length_drop, List.length_zipWith] at *; omega)) | exact (hM.sl 6 rfl).cellA rfl (by first | omega | (simp only [List.length_replicate, List.length_append, List.length_set, List.length_cons, List.length_nil, List.length_map, List.length_range, List.length_take, List.length_drop, List.length_zipWith] at *; omega)) | exact (hM.sl 7 rfl).cellA rfl (by first | omega | (simp only [List.length_replicate, List.length_append, List.length_set, List.length_cons, List.length_nil, List.length_map, List.length_range, List.length_take, List.length_drop, List.length_zipWith] at *; omega)) | exact (hM.arg0 (by assumption)).cellA rfl (by first | omega | (simp only [List.length_replicate, List.length_append, List.length_set, List.length_cons, List.length_nil, List.length_map, List.length_range, List.length_take, List.length_drop, List.length_zipWith] at *; omega)) | exact (hM.arg (by assumption) (by assumption)).cellA rfl (by first | omega | (simp only [List.length_replicate, List.length_append, List.length_set, List.length_cons, List.length_nil, List.length_map, List.length_range, List.length_take, List.length_drop, List.length_zipWith] at *; omega))) rfl ?_
      refine Q.mv rfl rfl <| Q.mv rfl rfl <| ?_
      refine Q.idx1 (k := _) rfl rfl (by first | exact hM.sl 0 rfl | exact hM.sl 1 rfl | exact hM.sl 2 rfl | exact hM.sl 3 rfl | exact hM.sl 4 rfl | exact hM.sl 5 rfl | exact hM.sl 6 rfl | exact hM.sl 7 rfl | exact hM.arg0 (by assumption) | exact hM.arg (by assumption) (by assumption) | assumption) rfl (by first | omega | (simp only [List.length_replicate, List.length_append, List.length_set, List.length_cons, List.length_nil, List.length_map, List.length_range, List.length_take, List.length_drop, List.length_zipWith] at *; omega)) Try.underlying27 (by kernel_rfl) rfl ?_
      refine Q.load rfl Try.underlying3 rfl (by first | exact (hM.sl 0 rfl).cellA rfl (by first | omega | (simp only [List.length_replicate, List.length_append, List.length_set, List.length_cons, List.length_nil, List.length_map, List.length_range, List.length_take, List.length_drop, List.length_zipWith] at *; omega)) | exact (hM.sl 1 rfl).cellA rfl (by first | omega | (simp only [List.length_replicate, List.length_append, List.length_set, List.length_cons, List.length_nil, List.length_map, List.length_range, List.length_take, List.length_drop, List.length_zipWith] at *; omega)) | exact (hM.sl 2 rfl).cellA rfl (by first | omega | (simp only [List.length_replicate, List.length_append, List.length_set, List.length_cons, List.length_nil, List.length_map, List.length_range, List.length_take, List.length_drop, List.length_zipWith] at *; omega)) | exact (hM.sl 3 rfl).cellA rfl (by first | omega | (simp only [List.length_replicate, List.length_append, List.length_set, List.length_cons, List.length_nil, List.length_map, List.length_range, List.length_take, List.length_drop, List.length_zipWith] at *; omega)) | exact (hM.sl 4 rfl).cellA rfl (by first | omega | (simp only [List.length_replicate, List.length_append, List.length_set, List.length_cons, List.length_nil, List.length_map, List.length_range, List.length_take, List.length_drop, List.length_zipWith] at *; omega)) | exact (hM.sl 5 rfl).cellA rfl (by first | omega | (simp only [List.length_replicate, List.length_append, List.length_set, List.length_cons, List.length_nil, List.length_map, List.length_range, List.length_take, List.length_drop, List.length_zipWith] at *; omega)) | exact (hM.sl 6 rfl).cellA rfl (by first | omega | (simp only [List.length_replicate, List.length_append, List.length_set, List.length_cons, List.length_nil, List.length_map, List.length_range, List.length_take, List.length_drop, List.length_zipWith] at *; omega)) | exact (hM.sl 7 rfl).cellA rfl (by first | omega | (simp only [List.length_replicate, List.length_append, List.length_set, List.length_cons, List.length_nil, List.length_map, List.length_range, List.length_take, List.length_drop, List.length_zipWith] at *; omega)) | exact (hM.arg0 (by assumption)).cellA rfl (by first | omega | (simp only [List.length_replicate, List.length_append, List.length_set, List.length_cons, List.length_nil, List.length_map, List.length_range, List.length_take, List.length_drop, List.length_zipWith] at *; omega)) | exact (hM.arg (by assumption) (by assumption)).cellA rfl (by first | omega | (simp only [List.length_replicate, List.length_append, List.length_set, List.length_cons, List.length_nil, List.length_map, List.length_range, List.length_take, List.length_drop, List.length_zipWith] at *; omega))) rfl ?_
      refine Q.bin rfl rfl rfl rfl <| Q.nil <| fun w1 hx1 => ?_
      have hM := hM.ext hx1
      refine X.next <| ?_
      refine C.cond' rfl (fun hC2 => ?_) (fun hC2 => ?_)
      ·
        have hne : l ≠ m := fun e => by subst e; exact hC2 rfl
        refine C.seq <| C.region <| E.asg rfl rfl <| E.nil <| X.next <| C.ret <| X.retB <| X.retT <| X.retT <| X.retB <| X.retT <| ret1 rfl rfl ?_
        exact ⟨by rw [decide_eq_false hne], hM.toExt⟩
      ·
        refine C.skip <| X.outN <| X.next <| C.region <| E.mv rfl rfl <| ?_
        refine E.add rfl rfl (by omega) rfl ?_

        refine E.asg rfl rfl <| E.nil <| X.again1 (i + 1) (Sub.cons rfl <| Sub.nil _) rfl ⟨hM, by omega, fun j hj => by
          by_cases e : j = i
          · subst e; rw [List.getElem?_eq_getElem hi', List.getElem?_eq_getElem him]; exact congrArg some (Decidable.not_not.1 hC2)
          · exact hI j (by omega)⟩ (by omega)
    ·
      have hlm : l = m := List.ext_getElem? fun j => by
        by_cases h : j < l.length
        · exact hI j (by omega)
        · rw [List.getElem?_eq_none (by omega), List.getElem?_eq_none (by omega)]
      refine C.exit <| X.exitT <| X.exitT <| X.outE <| X.next <| C.seq <| C.region <| E.asg rfl rfl <| E.nil <| X.next <| C.ret <| ret1 rfl rfl ?_
      exact ⟨by rw [decide_eq_true hlm], hM.toExt⟩

end Go.Proofs.Ytnnmebpahickhaa
