/- journal: the reference's Recover; a journal's Open, lock, Append, Records. -/
import Derived.Test.YtdcgmkoonanpgaaJn2
import Derived.Test.YtdcgmkoonanpgaaMu
namespace Go.Proofs.Ytdcgmkoonanpgaa
set_option linter.unusedSimpArgs false
set_option linter.unusedVariables false
open Go.RowKit Sym Go.Conc.Locks

theorem cut_len {α : Type} (a d : Nat) (l : List α) : (cutL a (a + d) l).length ≤ d := by rw [cutL, List.length_take]; omega
theorem own_headG {α : Type} {enc : α → Value} {w : World} {e : TypeId} {v : Value} {l : List α} (h : OwnL enc w 0 e v l) : ∃ x : Hd, v = slv x := by
  rcases h.2 with ⟨rfl, _⟩ | ⟨g, cap, cur, rfl, _⟩
  · exact ⟨(none, 0, 0), rfl⟩
  · exact ⟨(_, _, _), rfl⟩
theorem first_short {l : List UInt8} (h : l.length < 8) : Jn.first l = 0 := by rw [Jn.first, if_pos h]
theorem first_long {l : List UInt8} (h8 : 8 ≤ l.length) (h : 4194304 < Jn.dec4 l ∨ l.length < Jn.dec4 l + 8) : Jn.first l = 0 := by rw [Jn.first, if_neg (by omega), if_pos h]
theorem first_bad {l : List UInt8} (h : Jn.crcN (l.take (Jn.dec4 l + 4)) ≠ Jn.dec4 (l.drop (Jn.dec4 l + 4))) : Jn.first l = 0 := by
  unfold Jn.first; split; rfl; split; rfl; first | rfl | rw [if_neg h]
theorem first_good {l : List UInt8} (h8 : 8 ≤ l.length) (h : ¬ (4194304 < Jn.dec4 l ∨ l.length < Jn.dec4 l + 8)) (hc : Jn.crcN (l.take (Jn.dec4 l + 4)) = Jn.dec4 (l.drop (Jn.dec4 l + 4))) : Jn.first l = Jn.dec4 l + 8 := by rw [Jn.first, if_neg (by omega), if_neg h, if_pos hc]
set_option maxHeartbeats 2000000 in
theorem rRecover_ret (p : Value) (l : List UInt8) (w : World) (hl : RdL u8 w p l) :
    Ret Try.prog 18 #[p] w fun v w' => RcvAns l v w w' := by
  have hM := M.start w
  refine enter Try.func18 rfl (by kernel_rfl) Try.ntmps18 rfl ?_
  refine C.seq <| C.region <| E.asg rfl rfl <| E.asg rfl rfl <| E.nil <| X.next <| C.seq <| C.region <| E.asg rfl rfl <| E.nil <| X.next <| C.seq <| C.region <| E.asg rfl rfl <| E.nil <| X.next <| ?_

  refine C.cut3 [] rfl (fun (v4 : Value) (hs : (List Hd)) (done : LL) => [(4, v4), (5, i64 (Jn.siz (Jn.recs 65536 l) : Int))]) (fun (v4 : Value) (hs : (List Hd)) (done : LL) w' => M w (Nn) w' [Rg.sl slv 22 v4 hs, Rg.bag hs done] ∧ Jn.recs 65536 l = done) ?_ ?_
  ·
    refine C.block <| ?_
    have hM := (hM.nil slv 22).bagNil
    try dsimp only [List.nil_append, List.cons_append, List.set_cons_zero, List.set_cons_succ, repl] at hM

    refine C.loop4 [(0, _)] rfl (fun (v4 : Value) (hs : (List Hd)) (done : LL) (a : Nat) => [(4, v4), (5, i64 a)]) (fun (v4 : Value) (hs : (List Hd)) (done : LL) (a : Nat) w' => M w (Nn) w' [Rg.sl slv 22 v4 hs, Rg.bag hs done] ∧ Rv l done a) (fun (v4 : Value) (hs : (List Hd)) (done : LL) (a : Nat) => 65536 - done.length) nilS [] [] 0 ?_ ?_ ?_
    · exact Sub.cons rfl <| Sub.cons rfl <| Sub.nil _
    · exact ⟨hM, Rv.start l⟩
    rintro v4 hs done a w0 ⟨hM, hI⟩
    have hll := Rd.le hl
    have hbl := (hM.bag 1 rfl).1
    obtain ⟨hI1, hI2, hI3, hI4⟩ := id hI
    refine C.seq <| ?_

    refine C.chainE [(0, _), (4, _), (5, _)] rfl [(17, .bool (decide (done.length < 65536 ∧ a + 8 ≤ l.length)))] ?_ ?_
    ·
      refine C.region <| E.mv rfl rfl <| ?_
      refine E.lenv rfl (Rd.shape (by first | exact hM.sl 0 rfl | exact hM.sl 1 rfl | exact hM.sl 2 rfl | exact hM.sl 3 rfl | exact hM.sl 4 rfl | exact hM.sl 5 rfl | exact hM.arg0 (by assumption) | exact hM.arg (by assumption) (by assumption) | assumption)) Try.underlying27 rfl ?_
      refine E.bin rfl rfl rfl rfl <| E.mv rfl rfl <| ?_
      refine E.split 11 rfl (fun g11 => ?_) (fun g11 => ?_)
      ·
        try simp only [decide_eq_true_eq, decide_eq_false_iff_not, ne_eq, Decidable.not_not, Bool.not_eq_true', Bool.not_eq_false'] at g11
        refine E.on rfl rfl (E.mv rfl rfl ?_)
        refine E.on rfl rfl (E.lenv rfl (Rd.shape (by first | exact hM.sl 0 rfl | exact hM.sl 1 rfl | exact hM.sl 2 rfl | exact hM.sl 3 rfl | exact hM.sl 4 rfl | exact hM.sl 5 rfl | exact hM.arg0 (by assumption) | exact hM.arg (by assumption) (by assumption) | assumption)) Try.underlying22 rfl ?_)
        refine E.on rfl rfl (E.mv rfl rfl ?_)
        refine E.on rfl rfl (E.sub' rfl rfl (by omega) rfl ?_)
        refine E.on rfl rfl (E.bin rfl rfl rfl rfl ?_)
        refine E.pick rfl rfl rfl <| E.nil <| X.join0 (Sub.cons (by (first | exact leaf_f (by omega) | exact leaf_t (by omega) | exact leaf_d (by omega) | exact leaf_f (by first | (simp [*] <;> fail) | omega) | exact leaf_t (by first | (simp [*] <;> fail) | omega) | exact leaf_d (by first | (simp [*] <;> fail) | omega) | exact leaf_f (by (first | omega | ((try simp only [decide_eq_true_eq, decide_eq_false_iff_not, Bool.not_eq_true', Bool.not_eq_false'] at *); first | omega | (simp_all <;> fail) | (simp_all; omega)))) | exact leaf_t (by (first | omega | ((try simp only [decide_eq_true_eq, decide_eq_false_iff_not, Bool.not_eq_true', Bool.not_eq_false'] at *); first | omega | (simp_all <;> fail) | (simp_all; omega)))) | exact leaf_d (by (first | omega | ((try simp only [decide_eq_true_eq, decide_eq_false_iff_not, Bool.not_eq_true', Bool.not_eq_false'] at *); first | omega | (simp_all <;> fail) | (simp_all; omega)))))) <| Sub.nil _) rfl rfl
      ·
        try simp only [decide_eq_true_eq, decide_eq_false_iff_not, ne_eq, Decidable.not_not, Bool.not_eq_true', Bool.not_eq_false'] at g11
        refine E.off rfl rfl rfl rfl <| E.off rfl rfl rfl rfl <| E.off rfl rfl rfl rfl <| E.off rfl rfl rfl rfl <| E.off rfl rfl rfl rfl <| E.pick rfl rfl rfl <| E.nil <| X.join0 (Sub.cons (by (first | exact leaf_f (by omega) | exact leaf_t (by omega) | exact leaf_d (by omega) | exact leaf_f (by first | (simp [*] <;> fail) | omega) | exact leaf_t (by first | (simp [*] <;> fail) | omega) | exact leaf_d (by first | (simp [*] <;> fail) | omega) | exact leaf_f (by (first | omega | ((try simp only [decide_eq_true_eq, decide_eq_false_iff_not, Bool.not_eq_true', Bool.not_eq_false'] at *); first | omega | (simp_all <;> fail) | (simp_all; omega)))) | exact leaf_t (by (first | omega | ((try simp only [decide_eq_true_eq, decide_eq_false_iff_not, Bool.not_eq_true', Bool.not_eq_false'] at *); first | omega | (simp_all <;> fail) | (simp_all; omega)))) | exact leaf_d (by (first | omega | ((try simp only [decide_eq_true_eq, decide_eq_false_iff_not, Bool.not_eq_true', Bool.not_eq_false'] at *); first | omega | (simp_all <;> fail) | (simp_all; omega)))))) <| Sub.nil _) rfl rfl
    refine C.cond' rfl (fun hC0 => ?_) (fun hC0 => ?_)
    ·
      have hld : (l.drop a).length = l.length - a := List.length_drop
      have hdl := Jn.dec4_lt (l.drop a)
      refine C.skip <| X.next <| C.block <| C.seq <| C.region <| E.mv rfl rfl <| E.mv rfl rfl <| ?_
      refine E.slcP (k' := .i64) _ _ rfl (.inl rfl) (.inr ⟨rfl, rfl⟩) (by first | exact hM.sl 0 rfl | exact hM.sl 1 rfl | exact hM.sl 2 rfl | exact hM.sl 3 rfl | exact hM.sl 4 rfl | exact hM.sl 5 rfl | exact hM.arg0 (by assumption) | exact hM.arg (by assumption) (by assumption) | assumption) Try.underlying22 (by kernel_rfl) (by first | omega | (simp only [List.length_replicate, List.length_append, List.length_set, List.length_cons, List.length_nil, List.length_map, List.length_range, List.length_take, List.length_drop, List.length_zipWith] at *; omega)) (by first | omega | (simp only [List.length_replicate, List.length_append, List.length_set, List.length_cons, List.length_nil, List.length_map, List.length_range, List.length_take, List.length_drop, List.length_zipWith] at *; omega)) rfl ?_
      have r20 := (hM.arg0 hl).partV (a := a) (b := l.length) (by omega) (by omega)
      rw [cut_drop] at r20
      refine E.call rfl rfl (rnumber_ret _ _ _ r20 (by omega)) ?_
      rintro _ w1 ⟨rfl, x1⟩
      have hM := hM.ext x1
      try dsimp only [List.nil_append, List.cons_append, List.set_cons_zero, List.set_cons_succ, repl] at hM
      refine E.asg rfl rfl <| E.nil <| X.next <| C.seq <| ?_

      refine C.chainE [(0, _), (4, _), (5, _), (6, _)] rfl [(32, .bool (decide (4194304 < (Jn.dec4 (l.drop a)) ∨ l.length < a + (Jn.dec4 (l.drop a)) + 8)))] ?_ ?_
      ·
        refine C.region <| E.mv rfl rfl <| E.bin rfl rfl rfl rfl <| E.mv rfl rfl <| ?_
        refine E.split 24 rfl (fun g24 => ?_) (fun g24 => ?_)
        ·
          try simp only [decide_eq_true_eq, decide_eq_false_iff_not, ne_eq, Decidable.not_not, Bool.not_eq_true', Bool.not_eq_false'] at g24
          refine E.off rfl rfl rfl rfl <| E.off rfl rfl rfl rfl <| E.off rfl rfl rfl rfl <| E.off rfl rfl rfl rfl <| E.off rfl rfl rfl rfl <| E.off rfl rfl rfl rfl <| E.off rfl rfl rfl rfl <| E.pick rfl rfl rfl <| E.nil <| X.join0 (Sub.cons (by (first | exact leaf_f (by omega) | exact leaf_t (by omega) | exact leaf_d (by omega) | exact leaf_f (by first | (simp [*] <;> fail) | omega) | exact leaf_t (by first | (simp [*] <;> fail) | omega) | exact leaf_d (by first | (simp [*] <;> fail) | omega) | exact leaf_f (by (first | omega | ((try simp only [decide_eq_true_eq, decide_eq_false_iff_not, Bool.not_eq_true', Bool.not_eq_false'] at *); first | omega | (simp_all <;> fail) | (simp_all; omega)))) | exact leaf_t (by (first | omega | ((try simp only [decide_eq_true_eq, decide_eq_false_iff_not, Bool.not_eq_true', Bool.not_eq_false'] at *); first | omega | (simp_all <;> fail) | (simp_all; omega)))) | exact leaf_d (by (first | omega | ((try simp only [decide_eq_true_eq, decide_eq_false_iff_not, Bool.not_eq_true', Bool.not_eq_false'] at *); first | omega | (simp_all <;> fail) | (simp_all; omega)))))) <| Sub.nil _) rfl rfl
        ·
          try simp only [decide_eq_true_eq, decide_eq_false_iff_not, ne_eq, Decidable.not_not, Bool.not_eq_true', Bool.not_eq_false'] at g24
          refine E.on rfl rfl (E.mv rfl rfl ?_)
          refine E.on rfl rfl (E.mv rfl rfl ?_)
          refine E.on rfl rfl (E.lenv rfl (Rd.shape (by first | exact hM.sl 0 rfl | exact hM.sl 1 rfl | exact hM.sl 2 rfl | exact hM.sl 3 rfl | exact hM.sl 4 rfl | exact hM.sl 5 rfl | exact hM.arg0 (by assumption) | exact hM.arg (by assumption) (by assumption) | assumption)) Try.underlying22 rfl ?_)
          refine E.on rfl rfl (E.mv rfl rfl ?_)
          refine E.on rfl rfl (E.sub' rfl rfl (by omega) rfl ?_)
          refine E.on rfl rfl (E.sub' rfl rfl (by omega) rfl ?_)
          refine E.on rfl rfl (E.bin rfl rfl rfl rfl ?_)
          refine E.pick rfl rfl rfl <| E.nil <| X.join0 (Sub.cons (by (first | exact leaf_f (by omega) | exact leaf_t (by omega) | exact leaf_d (by omega) | exact leaf_f (by first | (simp [*] <;> fail) | omega) | exact leaf_t (by first | (simp [*] <;> fail) | omega) | exact leaf_d (by first | (simp [*] <;> fail) | omega) | exact leaf_f (by (first | omega | ((try simp only [decide_eq_true_eq, decide_eq_false_iff_not, Bool.not_eq_true', Bool.not_eq_false'] at *); first | omega | (simp_all <;> fail) | (simp_all; omega)))) | exact leaf_t (by (first | omega | ((try simp only [decide_eq_true_eq, decide_eq_false_iff_not, Bool.not_eq_true', Bool.not_eq_false'] at *); first | omega | (simp_all <;> fail) | (simp_all; omega)))) | exact leaf_d (by (first | omega | ((try simp only [decide_eq_true_eq, decide_eq_false_iff_not, Bool.not_eq_true', Bool.not_eq_false'] at *); first | omega | (simp_all <;> fail) | (simp_all; omega)))))) <| Sub.nil _) rfl rfl
      refine C.cond' rfl (fun hC1 => ?_) (fun hC1 => ?_)
      ·

        refine C.exit <| X.exitT <| X.outNe rfl <| X.exitT <| X.outE <| X.join3 v4 hs done (Sub.cons rfl <| Sub.cons (look_val rfl (by rw [hI.stop (.inl (first_long (by omega) (by omega))), ← hI2])) <| Sub.nil _) rfl ⟨hM, hI.stop (.inl (first_long (by omega) (by omega)))⟩
      ·
        refine C.skip <| X.next <| C.seq <| C.seq <| C.drawn (by kernel_rfl) (by kernel_rfl) <| Q.mv rfl rfl <| Q.mv rfl rfl <| ?_
        refine Q.addN (b := 4) rfl rfl (by first | omega | (simp only [List.length_replicate, List.length_append, List.length_set, List.length_cons, List.length_nil, List.length_map, List.length_range, List.length_take, List.length_drop, List.length_zipWith] at *; omega)) rfl ?_
        refine Q.mv rfl rfl <| ?_
        refine Q.addN rfl rfl (by first | omega | (simp only [List.length_replicate, List.length_append, List.length_set, List.length_cons, List.length_nil, List.length_map, List.length_range, List.length_take, List.length_drop, List.length_zipWith] at *; omega)) rfl ?_
        refine Q.slcP (k' := .i64) _ _ rfl (.inl rfl) (.inr ⟨rfl, rfl⟩) (by first | exact hM.sl 0 rfl | exact hM.sl 1 rfl | exact hM.sl 2 rfl | exact hM.sl 3 rfl | exact hM.sl 4 rfl | exact hM.sl 5 rfl | exact hM.arg0 (by assumption) | exact hM.arg (by assumption) (by assumption) | assumption) Try.underlying22 (by kernel_rfl) (by omega) (by omega) rfl ?_
        have r38 := (hM.arg0 hl).partV (a := a + 4 + (Jn.dec4 (l.drop a))) (b := l.length) (by omega) (by omega)
        rw [cut_drop, show a + 4 + (Jn.dec4 (l.drop a)) = a + ((Jn.dec4 (l.drop a)) + 4) by omega, ← List.drop_drop] at r38
        rw [show a + 4 + (Jn.dec4 (l.drop a)) = a + ((Jn.dec4 (l.drop a)) + 4) by omega]
        refine Q.call (v := i64 (Jn.dec4 ((l.drop a).drop ((Jn.dec4 (l.drop a)) + 4)) : Int)) rfl rfl (fun w' hw' => rnumber_ret _ _ w' (r38.ext hw') (by rw [List.length_drop]; omega)) ?_
        have hd2 := Jn.dec4_lt ((l.drop a).drop ((Jn.dec4 (l.drop a)) + 4))
        refine Q.conv rfl Try.underlying3 Try.underlying58 (IntWalk.u32_in _ (by omega)) rfl ?_
        refine Q.mv rfl rfl <| Q.mv rfl rfl <| Q.mv rfl rfl <| ?_
        refine Q.addN (b := 4) rfl rfl (by first | omega | (simp only [List.length_replicate, List.length_append, List.length_set, List.length_cons, List.length_nil, List.length_map, List.length_range, List.length_take, List.length_drop, List.length_zipWith] at *; omega)) rfl ?_
        refine Q.mv rfl rfl <| ?_
        refine Q.addN rfl rfl (by first | omega | (simp only [List.length_replicate, List.length_append, List.length_set, List.length_cons, List.length_nil, List.length_map, List.length_range, List.length_take, List.length_drop, List.length_zipWith] at *; omega)) rfl ?_
        refine Q.slcP _ _ rfl (.inl rfl) (.inl rfl) (by first | exact hM.sl 0 rfl | exact hM.sl 1 rfl | exact hM.sl 2 rfl | exact hM.sl 3 rfl | exact hM.sl 4 rfl | exact hM.sl 5 rfl | exact hM.arg0 (by assumption) | exact hM.arg (by assumption) (by assumption) | assumption) Try.underlying22 (by kernel_rfl) (by first | omega | (simp only [List.length_replicate, List.length_append, List.length_set, List.length_cons, List.length_nil, List.length_map, List.length_range, List.length_take, List.length_drop, List.length_zipWith] at *; omega)) (by first | omega | (simp only [List.length_replicate, List.length_append, List.length_set, List.length_cons, List.length_nil, List.length_map, List.length_range, List.length_take, List.length_drop, List.length_zipWith] at *; omega)) rfl ?_
        have r47 := (hM.arg0 hl).partV (a := a) (b := a + 4 + (Jn.dec4 (l.drop a))) (by omega) (by omega)
        rw [cutL, show a + 4 + (Jn.dec4 (l.drop a)) - a = (Jn.dec4 (l.drop a)) + 4 by omega] at r47
        refine Q.call (v := u32 (Crc.crc ((l.drop a).take ((Jn.dec4 (l.drop a)) + 4)))) rfl rfl (fun w' hw' => (rCrc32_ret _ _ w' (r47.ext hw')).mono fun v w2 h => ⟨h.1, h.2 ▸ Ext.refl _⟩) ?_
        refine Q.bin rfl rfl rfl rfl <| Q.nil <| fun w2 hx2 => ?_
        have hM := hM.ext hx2
        refine X.next <| ?_
        refine C.cond' rfl (fun hC2 => ?_) (fun hC2 => ?_)
        ·
          have hne : Jn.crcN ((l.drop a).take ((Jn.dec4 (l.drop a)) + 4)) ≠ Jn.dec4 ((l.drop a).drop ((Jn.dec4 (l.drop a)) + 4)) := fun h => hC2 (congrArg Int.ofNat h).symm

          refine C.exit <| X.exitT <| X.outNe rfl <| X.exitT <| X.outE <| X.join3 v4 hs done (Sub.cons rfl <| Sub.cons (look_val rfl (by rw [hI.stop (.inl (first_bad hne)), ← hI2])) <| Sub.nil _) rfl ⟨hM, hI.stop (.inl (first_bad hne))⟩
        ·
          have heq : Jn.crcN ((l.drop a).take ((Jn.dec4 (l.drop a)) + 4)) = Jn.dec4 ((l.drop a).drop ((Jn.dec4 (l.drop a)) + 4)) := (Int.ofNat.inj (Decidable.byContradiction hC2)).symm
          have hfg := first_good (by omega) (by omega) heq
          refine C.skip <| X.next <| C.seq <| C.region <| E.asg rfl rfl <| E.nil <| X.next <| C.seq <| C.region <| E.mv rfl rfl <| E.mv rfl rfl <| E.mv rfl rfl <| ?_
          refine E.addN (b := 4) rfl rfl (by first | omega | (simp only [List.length_replicate, List.length_append, List.length_set, List.length_cons, List.length_nil, List.length_map, List.length_range, List.length_take, List.length_drop, List.length_zipWith] at *; omega)) rfl ?_
          refine E.mv rfl rfl <| ?_
          refine E.addN (b := 4) rfl rfl (by first | omega | (simp only [List.length_replicate, List.length_append, List.length_set, List.length_cons, List.length_nil, List.length_map, List.length_range, List.length_take, List.length_drop, List.length_zipWith] at *; omega)) rfl ?_
          refine E.mv rfl rfl <| ?_
          refine E.addN rfl rfl (by first | omega | (simp only [List.length_replicate, List.length_append, List.length_set, List.length_cons, List.length_nil, List.length_map, List.length_range, List.length_take, List.length_drop, List.length_zipWith] at *; omega)) rfl ?_
          refine E.slcP _ _ rfl (.inl rfl) (.inl rfl) (by first | exact hM.sl 0 rfl | exact hM.sl 1 rfl | exact hM.sl 2 rfl | exact hM.sl 3 rfl | exact hM.sl 4 rfl | exact hM.sl 5 rfl | exact hM.arg0 (by assumption) | exact hM.arg (by assumption) (by assumption) | assumption) Try.underlying22 (by kernel_rfl) (by first | omega | (simp only [List.length_replicate, List.length_append, List.length_set, List.length_cons, List.length_nil, List.length_map, List.length_range, List.length_take, List.length_drop, List.length_zipWith] at *; omega)) (by first | omega | (simp only [List.length_replicate, List.length_append, List.length_set, List.length_cons, List.length_nil, List.length_map, List.length_range, List.length_take, List.length_drop, List.length_zipWith] at *; omega)) rfl ?_
          have hM := hM.nil u8 5
          try dsimp only [List.nil_append, List.cons_append, List.set_cons_zero, List.set_cons_succ, repl] at hM
          have hcl : (cutL (a + 4) (a + 4 + (Jn.dec4 (l.drop a))) l).length ≤ 4194304 := Nat.le_trans (cut_len _ _ _) (by omega)
          refine E.appendM 2 hM rfl rfl rfl Try.underlying22 elem_Tuint8 ((hM.arg0 hl).partV (by omega) (by omega)) (fun _ => rfl) (by simp only [List.length_nil]; omega) (by simp only [List.length_nil]; omega) rfl ?_
          intro v59 w3 hM
          try dsimp only [List.nil_append, List.cons_append, List.set_cons_zero, List.set_cons_succ, repl] at hM
          obtain ⟨x59, rfl⟩ := own_head (hM.own 2 rfl)
          refine E.asg rfl rfl <| E.nil <| X.next <| C.seq <| C.region <| E.mv rfl rfl <| E.mv rfl rfl <| ?_
          refine E.pushM 0 x59 hM rfl rfl rfl Try.underlying27 elem_Tsl_uint8 rfl (by omega) (by omega) (by simp) rfl rfl ?_
          intro v63 u63 w4 hM
          try dsimp only [List.nil_append, List.cons_append, List.set_cons_zero, List.set_cons_succ, repl] at hM
          have hM := hM.bagPush 1 2 (by decide) rfl rfl
          try dsimp only [List.nil_append, List.cons_append, List.set_cons_zero, List.set_cons_succ, repl] at hM
          refine E.asg rfl rfl <| E.nil <| X.next <| C.region <| E.mv rfl rfl <| ?_
          refine E.addN (b := 8) rfl rfl (by first | omega | (simp only [List.length_replicate, List.length_append, List.length_set, List.length_cons, List.length_nil, List.length_map, List.length_range, List.length_take, List.length_drop, List.length_zipWith] at *; omega)) rfl ?_
          refine E.mv rfl rfl <| ?_
          refine E.addN rfl rfl (by first | omega | (simp only [List.length_replicate, List.length_append, List.length_set, List.length_cons, List.length_nil, List.length_map, List.length_range, List.length_take, List.length_drop, List.length_zipWith] at *; omega)) rfl ?_

          refine E.asg rfl rfl <| E.nil <| X.outN <| X.again4 _ _ _ (a + Jn.first (l.drop a)) (Sub.cons rfl <| Sub.cons (look_val rfl (by rw [hfg]; omega)) <| Sub.nil _) rfl ⟨hM.pick [0, 1] (by decide), hI.step (by omega) (by omega) (by rw [hfg, show a + ((Jn.dec4 (l.drop a)) + 8) - 4 = a + 4 + (Jn.dec4 (l.drop a)) by omega])⟩ (by rw [List.length_append, List.length_singleton]; omega)
    ·

      refine C.exit <| X.exitT <| X.exitT <| X.outE <| X.join3 v4 hs done (Sub.cons rfl <| Sub.cons (look_val rfl (by rw [hI.stop (if h : done.length < 65536 then .inl (first_short (by rw [List.length_drop]; omega)) else .inr (by omega)), ← hI2])) <| Sub.nil _) rfl ⟨hM, hI.stop (if h : done.length < 65536 then .inl (first_short (by rw [List.length_drop]; omega)) else .inr (by omega))⟩
  rintro v4 hs done w5 ⟨hM, hD⟩
  refine C.seq <| C.region <| E.mv rfl rfl <| E.mv rfl rfl <| E.asg rfl rfl <| E.asg rfl rfl <| E.nil <| X.next <| C.ret <| ret2 rfl rfl rfl ?_
  exact ⟨_, _, rfl, by rw [hD]; exact hM⟩

/-- a journal in memory: its variable, the list of its records, the records -/
abbrev jb (b : Nat) (st : Int) (v : Value) (n : Nat) : Rg := Rg.blk b 64 [.int .i32 st, .int .u32 0, .bool true, v, i64 n]
abbrev J3 (b : Nat) (v : Value) (hs : List Hd) (ls : LL) : List Rg := [jb b 0 v (Jn.siz ls), Rg.sl slv 22 v hs, Rg.bag hs ls]
abbrev jp (b : Nat) : Value := .pointer (some ⟨b, 0, none⟩)
/-- what a journal holds is within bounds -/
def Jok (ls : LL) : Prop := ls.length ≤ 65536 ∧ Jn.siz ls ≤ 16777216 ∧ ∀ p ∈ ls, p.length ≤ 4194304
theorem jok_recs {l : List UInt8} (h : l.length ≤ 16777216) : Jok (Jn.recs 65536 l) := ⟨Jn.recs_le _ _, Nat.le_trans (Jn.encs_recs _ _).2 h, Jn.recs_small _ _⟩
/-- a journal that is left in memory -/
def Jout (b : Nat) (ls : LL) (w0 : World) (S : Nat → Prop) (w : World) (more : List Rg) : Prop := ∃ v hs, M w0 S w (J3 b v hs ls ++ more)
theorem Open_ret (p : Value) (l : List UInt8) (w : World) (hl : RdL u8 w p l) (hlen : l.length ≤ 16777216) :
    Ret Try.prog 25 #[p] w fun v w' => ∃ b, v = .tuple #[jp b, i64 0] ∧ Jout b (Jn.recs 65536 l) w Nn w' [] := by
  have hM := M.start w
  refine enter Try.func25 rfl (by kernel_rfl) Try.ntmps25 rfl ?_
  refine C.seq <| C.region <| E.asg rfl rfl <| E.asg rfl rfl <| E.nil <| X.next <| C.seq <| C.seq <| C.region <| E.mv rfl rfl <| ?_
  refine E.lenv rfl (Rd.shape (by first | exact hM.sl 0 rfl | exact hM.sl 1 rfl | exact hM.sl 2 rfl | exact hM.sl 3 rfl | exact hM.sl 4 rfl | exact hM.sl 5 rfl | exact hM.arg0 (by assumption) | exact hM.arg (by assumption) (by assumption) | assumption)) Try.underlying22 rfl ?_
  refine E.bin rfl rfl rfl rfl <| E.nil <| X.next <| ?_
  refine C.cond' rfl (fun hC0 => ?_) (fun hC0 => ?_)
  ·
    omega
  ·
    refine C.skip <| X.next <| C.seq <| C.region <| E.mv rfl rfl <| ?_
    refine E.call rfl rfl (Recover_ret p l _ (hM.arg0 hl)) ?_
    rintro _ w1 ⟨u1, hs1, rfl, m⟩
    have hM := hM.call m
    obtain ⟨x1, rfl⟩ := own_headG (hM.own 0 rfl)
    try dsimp only [List.nil_append, List.cons_append, List.set_cons_zero, List.set_cons_succ, repl] at hM
    refine E.mv rfl rfl <| E.ext rfl rfl rfl <| E.ext rfl rfl rfl <| E.asg rfl rfl <| E.asg rfl rfl <| E.nil <| X.next <| C.seq <| C.region <| E.mv rfl rfl <| E.mv rfl rfl <| ?_
    refine E.buildC (cs := [_, _, _, _, _]) [.int .i32 0, .int .u32 0, .bool false, .slice none 0 0, .int .i64 0] [2, 3, 4] rfl rfl (by kernel_rfl) rfl ?_
    refine E.boxM hM rfl rfl rfl ?_
    intro b17 w1 hM
    try dsimp only [List.nil_append, List.cons_append, List.set_cons_zero, List.set_cons_succ, repl] at hM
    refine E.asg rfl rfl <| E.asg rfl rfl <| E.nil <| X.next <| C.ret <| ret2 rfl rfl rfl ?_
    exact ⟨_, rfl, _, _, hM.pick [2, 0, 1] (by decide)⟩

end Go.Proofs.Ytdcgmkoonanpgaa
