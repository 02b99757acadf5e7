/- law 53: size, written; Recovers. -/
import Derived.Test.YtdcgmkoonanpgaaJnB
namespace Go.Proofs.Ytdcgmkoonanpgaa
set_option linter.unusedSimpArgs false
set_option linter.unusedVariables false
open Go.RowKit Sym Go.Conc.Locks

theorem size_ret (q : Value) (hs0 : List Hd) (ls : LL) (w : World) (hr : RdL slv w q hs0) (hb : Bag w hs0 ls) :
    Ret Try.prog 20 #[q] w fun v w' => v = i64 ((min (Jn.siz ls) 1048576 : Nat) : Int) ∧ Ext w w' := by
  have hM := M.start w
  refine enter Try.func20 rfl (by kernel_rfl) Try.ntmps20 rfl ?_
  refine C.seq <| C.region <| E.asg rfl rfl <| E.nil <| X.next <| C.seq <| C.region <| E.asg rfl rfl <| E.nil <| X.next <| C.seq <| C.seq <| C.region <| E.mv rfl rfl <| ?_
  refine E.lenv rfl (Rd.shape (by first | exact hM.sl 0 rfl | exact hM.sl 1 rfl | exact hM.sl 2 rfl | exact hM.sl 3 rfl | exact hM.sl 4 rfl | exact hM.sl 5 rfl | exact hM.sl 6 rfl | exact hM.sl 7 rfl | exact hM.arg0 (by assumption) | exact hM.arg (by assumption) (by assumption) | assumption)) Try.underlying27 rfl ?_
  refine E.mv rfl rfl <| E.nil <| X.next <| C.block <| ?_
  have hbl := hb.1
  have hle := Rd.le hr

  refine C.loop1 [(0, _), (6, _)] rfl (fun (i : Nat) => [(3, i64 ((min (Jn.siz (ls.take i)) 1048576 : Nat) : Int)), (7, i64 i)]) (fun (i : Nat) w' => M w (Nn) w' [] ∧ i ≤ ls.length) (fun (i : Nat) => ls.length - i) 0 ?_ ?_ ?_
  · exact Sub.cons (look_val rfl (by simp [Jn.siz])) <| Sub.cons rfl <| Sub.nil _
  · exact ⟨hM, Nat.zero_le _⟩
  rintro i w0 ⟨hM, hi⟩
  refine C.seq <| C.region <| E.bin rfl rfl rfl rfl <| E.nil <| X.next <| C.seq <| ?_
  refine C.cond' rfl (fun hC0 => ?_) (fun hC0 => ?_)
  ·
    have hi' : i < ls.length := by omega
    have hss := siz_take_succ hi'
    refine C.skip <| X.next <| C.seq <| C.block <| C.seq <| C.region <| E.mv rfl rfl <| E.asg rfl rfl <| E.nil <| X.next <| C.region <| E.mv rfl rfl <| ?_
    refine E.addN (b := 8) rfl rfl (by first | omega | (simp only [List.length_replicate, List.length_append, List.length_set, List.length_cons, List.length_nil, List.length_map, List.length_range, List.length_take, List.length_drop, List.length_zipWith] at *; omega)) rfl ?_
    refine E.mv rfl rfl <| E.mv rfl rfl <| ?_
    refine E.get (k := _) rfl rfl (by first | exact hM.sl 0 rfl | exact hM.sl 1 rfl | exact hM.sl 2 rfl | exact hM.sl 3 rfl | exact hM.sl 4 rfl | exact hM.sl 5 rfl | exact hM.sl 6 rfl | exact hM.sl 7 rfl | exact hM.arg0 (by assumption) | exact hM.arg (by assumption) (by assumption) | assumption) rfl (by first | omega | (simp only [List.length_replicate, List.length_append, List.length_set, List.length_cons, List.length_nil, List.length_map, List.length_range, List.length_take, List.length_drop, List.length_zipWith] at *; omega)) Try.underlying27 (by kernel_rfl) Try.underlying22 rfl rfl rfl ?_
    refine E.lenv rfl (Rd.shape ((hb.at hi').ext hM.toExt)) Try.underlying22 rfl ?_
    refine E.min2 rfl rfl rfl <| ?_
    refine E.add rfl rfl (by omega) rfl ?_
    refine E.min2 rfl rfl rfl <| E.asg rfl rfl <| E.nil <| X.outN <| X.next <| C.region <| ?_
    refine E.addN (b := 1) rfl rfl (by first | omega | (simp only [List.length_replicate, List.length_append, List.length_set, List.length_cons, List.length_nil, List.length_map, List.length_range, List.length_take, List.length_drop, List.length_zipWith] at *; omega)) rfl ?_

    refine E.mv rfl rfl <| E.nil <| X.again1 (i + 1) (Sub.cons (look_val rfl (by rw [hss]; omega)) <| Sub.cons rfl <| Sub.nil _) rfl ⟨hM, by omega⟩ (by omega)
  ·
    obtain rfl : i = ls.length := by omega
    refine C.exit <| X.exitT <| X.exitT <| X.outE <| X.next <| C.seq <| C.region <| E.mv rfl rfl <| E.asg rfl rfl <| E.nil <| X.next <| C.ret <| ret1 rfl rfl ?_
    exact ⟨by rw [List.take_length], hM.toExt⟩

theorem small_ok {ls : LL} (h1 : ls.length ≤ 40) (h2 : Jn.siz ls ≤ 3000) : Jok ls := ⟨by omega, by omega, fun p hp => by
  obtain ⟨i, hi, rfl⟩ := List.getElem_of_mem hp
  have := siz_take_succ hi
  have := Jn.siz_mono ls (i + 1)
  omega⟩
set_option maxHeartbeats 1000000 in
theorem written_ret (q : Value) (hs0 : List Hd) (ls : LL) (w : World) (hr : RdL slv w q hs0) (hb : Bag w hs0 ls) (h1 : ls.length ≤ 40) (h2 : Jn.siz ls ≤ 3000) :
    Ret Try.prog 21 #[q] w fun v w' => ∃ b vr hs, v = .tuple #[jp b, .bool true] ∧ M w Nn w' (J3 b vr hs ls) := by
  have hM := M.start w
  refine enter Try.func21 rfl (by kernel_rfl) Try.ntmps21 rfl ?_
  refine C.seq <| C.region <| E.asg rfl rfl <| E.asg rfl rfl <| E.nil <| X.next <| C.seq <| C.region <| ?_
  refine E.call rfl rfl (Open_ret nilS [] _ (RdL.nil u8 _) (by simp)) ?_
  rintro _ w1 ⟨b, rfl, vr, hs, m⟩
  rw [recs_nil] at m
  have hM := hM.call m
  try dsimp only [List.nil_append, List.cons_append, List.set_cons_zero, List.set_cons_succ, repl] at hM
  refine E.mv rfl rfl <| E.ext rfl rfl rfl <| E.ext rfl rfl rfl <| E.asg rfl rfl <| E.asg rfl rfl <| E.nil <| X.next <| C.seq <| ?_

  refine C.chainE [(0, _), (4, _)] rfl [(16, .bool false)] ?_ ?_
  ·
    refine C.region <| E.mv rfl rfl <| E.bin rfl rfl rfl rfl <| E.mv rfl rfl <| ?_
    refine E.split 13 rfl (fun g13 => ?_) (fun g13 => ?_)
    ·
      try simp only [decide_eq_true_eq, decide_eq_false_iff_not, ne_eq, Decidable.not_not, Bool.not_eq_true', Bool.not_eq_false'] at g13
      exact absurd g13 (by decide)
    ·
      try simp only [decide_eq_true_eq, decide_eq_false_iff_not, ne_eq, Decidable.not_not, Bool.not_eq_true', Bool.not_eq_false'] at g13
      refine E.on rfl rfl (E.mv rfl rfl ?_)
      refine E.on rfl rfl (E.eqnil rfl rfl Try.underlying33 rfl ?_)
      refine E.pick rfl rfl rfl <| E.nil <| X.join0 (Sub.cons (look_eq rfl (by rfl)) <| Sub.nil _) rfl rfl
  refine C.cond rfl (fun hC0 => ?_) (fun hC0 => ?_)
  ·
    cases hC0
  ·
    refine C.skip <| X.next <| C.seq <| C.seq <| C.region <| E.mv rfl rfl <| ?_
    refine E.lenv rfl (Rd.shape (by first | exact hM.sl 0 rfl | exact hM.sl 1 rfl | exact hM.sl 2 rfl | exact hM.sl 3 rfl | exact hM.sl 4 rfl | exact hM.sl 5 rfl | exact hM.sl 6 rfl | exact hM.sl 7 rfl | exact hM.arg0 (by assumption) | exact hM.arg (by assumption) (by assumption) | assumption)) Try.underlying27 rfl ?_
    refine E.mv rfl rfl <| E.nil <| X.next <| C.block <| ?_
    have hbl := hb.1
    have hok := small_ok h1 h2

    refine C.loop3 [(0, _), (4, _), (18, _)] rfl (fun (i : Nat) (vr : Value) (hs : (List Hd)) => [(19, i64 i)]) (fun (i : Nat) (vr : Value) (hs : (List Hd)) w' => M w (Nn) w' (J3 b vr hs (ls.take i)) ∧ i ≤ ls.length) (fun (i : Nat) (vr : Value) (hs : (List Hd)) => ls.length - i) 0 vr hs ?_ ?_ ?_
    · exact Sub.cons rfl <| Sub.nil _
    · exact ⟨hM, Nat.zero_le _⟩
    rintro i vr hs w1 ⟨hM, hi⟩
    refine C.seq <| C.region <| E.bin rfl rfl rfl rfl <| E.nil <| X.next <| C.seq <| ?_
    refine C.cond' rfl (fun hC1 => ?_) (fun hC1 => ?_)
    ·
      have hi' : i < ls.length := by omega
      have hss := siz_take_succ hi'
      have hmo := Jn.siz_mono ls (i + 1)
      have hlt : (ls.take i).length = i := by rw [List.length_take]; omega
      refine C.skip <| X.next <| C.seq <| C.block <| C.seq <| C.region <| E.mv rfl rfl <| E.asg rfl rfl <| E.nil <| X.next <| C.seq <| C.region <| E.mv rfl rfl <| E.mv rfl rfl <| E.mv rfl rfl <| ?_
      refine E.get (k := i) rfl rfl (hM.arg0 hr) rfl (by omega) Try.underlying27 (by kernel_rfl) Try.underlying22 rfl rfl rfl ?_
      refine E.call rfl rfl (Append_ret b vr hs _ _ ls[i] _ hM.sep (hok.take i) (hM.stb0 [0, 1, 2] rfl (fun w' x => (hb.at hi').ext x))) ?_
      rintro _ w2 ⟨e2, ls2, rfl, hsp, vr2, hs2, m2⟩
      obtain ⟨rfl, rfl⟩ := app_fine hsp (by omega) (by omega) (by omega)
      have hM := hM.calls [0, 1, 2] (by decide) rfl (by simp) m2
      try dsimp only [List.nil_append, List.cons_append, List.set_cons_zero, List.set_cons_succ, repl] at hM
      refine E.bin rfl rfl rfl rfl <| E.nil <| X.next <| ?_
      refine C.cond' rfl (fun hC2 => ?_) (fun hC2 => ?_)
      ·
        exact absurd rfl hC2
      ·
        refine C.skip <| X.outN <| X.next <| C.region <| ?_
        refine E.add rfl rfl (by omega) rfl ?_

        refine E.mv rfl rfl <| E.nil <| X.again3 (i + 1) _ _ (Sub.cons rfl <| Sub.nil _) rfl ⟨by rw [← List.take_append_getElem hi']; exact hM, by omega⟩ (by omega)
    ·
      obtain rfl : i = ls.length := by omega
      rw [List.take_length] at hM
      refine C.exit <| X.exitT <| X.exitT <| X.outE <| X.next <| C.seq <| C.region <| E.mv rfl rfl <| E.asg rfl rfl <| E.asg rfl rfl <| E.nil <| X.next <| C.ret <| ret2 rfl rfl rfl ?_
      exact ⟨_, _, _, rfl, hM⟩

set_option maxHeartbeats 4000000 in
theorem JournalRecovers_ret (q : Value) (hs0 : List Hd) (ls : LL) (lost : Int) (w : World) (hr : RdL slv w q hs0) (hb : Bag w hs0 ls) :
    Ret Try.prog 4 #[q, i64 lost] w fun v w' => v = .bool true ∧ Ext w w' := by
  have hM := M.start w
  refine enter Try.func4 rfl (by kernel_rfl) Try.ntmps4 rfl ?_
  refine C.seq <| C.region <| E.asg rfl rfl <| E.nil <| X.next <| C.seq <| ?_

  refine C.cut0 [(0, _), (1, _)] rfl [(20, .bool (decide (40 < ls.length ∨ 3000 < Jn.siz ls)))] (fun w' => M w (Nn) w' []) ?_ ?_
  ·
    have hbl := hb.1
    refine C.region <| E.mv rfl rfl <| ?_
    refine E.lenv rfl (Rd.shape (hM.arg0 hr)) Try.underlying27 rfl ?_
    refine E.bin rfl rfl rfl rfl <| E.mv rfl rfl <| ?_
    refine E.split 16 rfl (fun g16 => ?_) (fun g16 => ?_)
    ·
      try simp only [decide_eq_true_eq, decide_eq_false_iff_not, ne_eq, Decidable.not_not, Bool.not_eq_true', Bool.not_eq_false'] at g16

      refine E.off rfl rfl rfl rfl <| E.off rfl rfl rfl rfl <| E.off rfl rfl rfl rfl <| E.pick rfl rfl rfl <| E.nil <| X.join0  (Sub.cons (by (first | exact leaf_f (by omega) | exact leaf_t (by omega) | exact leaf_d (by omega) | exact leaf_f (by first | (simp [*] <;> fail) | omega) | exact leaf_t (by first | (simp [*] <;> fail) | omega) | exact leaf_d (by first | (simp [*] <;> fail) | omega) | exact leaf_f (by (first | omega | ((try simp only [decide_eq_true_eq, decide_eq_false_iff_not, Bool.not_eq_true', Bool.not_eq_false'] at *); first | omega | (simp_all <;> fail) | (simp_all; omega)))) | exact leaf_t (by (first | omega | ((try simp only [decide_eq_true_eq, decide_eq_false_iff_not, Bool.not_eq_true', Bool.not_eq_false'] at *); first | omega | (simp_all <;> fail) | (simp_all; omega)))) | exact leaf_d (by (first | omega | ((try simp only [decide_eq_true_eq, decide_eq_false_iff_not, Bool.not_eq_true', Bool.not_eq_false'] at *); first | omega | (simp_all <;> fail) | (simp_all; omega)))))) <| Sub.nil _) rfl hM
    ·
      try simp only [decide_eq_true_eq, decide_eq_false_iff_not, ne_eq, Decidable.not_not, Bool.not_eq_true', Bool.not_eq_false'] at g16
      refine E.on rfl rfl (E.mv rfl rfl ?_)
      refine E.on rfl rfl (E.call rfl rfl (size_ret q hs0 ls _ (hM.arg0 hr) (hb.ext hM.toExt)) ?_)
      rintro _ w1 ⟨rfl, x1⟩
      have hM := hM.ext x1
      try dsimp only [List.nil_append, List.cons_append, List.set_cons_zero, List.set_cons_succ, repl] at hM
      refine E.on rfl rfl (E.bin rfl rfl rfl rfl ?_)

      refine E.pick rfl rfl rfl <| E.nil <| X.join0  (Sub.cons (by (first | exact leaf_f (by omega) | exact leaf_t (by omega) | exact leaf_d (by omega) | exact leaf_f (by first | (simp [*] <;> fail) | omega) | exact leaf_t (by first | (simp [*] <;> fail) | omega) | exact leaf_d (by first | (simp [*] <;> fail) | omega) | exact leaf_f (by (first | omega | ((try simp only [decide_eq_true_eq, decide_eq_false_iff_not, Bool.not_eq_true', Bool.not_eq_false'] at *); first | omega | (simp_all <;> fail) | (simp_all; omega)))) | exact leaf_t (by (first | omega | ((try simp only [decide_eq_true_eq, decide_eq_false_iff_not, Bool.not_eq_true', Bool.not_eq_false'] at *); first | omega | (simp_all <;> fail) | (simp_all; omega)))) | exact leaf_d (by (first | omega | ((try simp only [decide_eq_true_eq, decide_eq_false_iff_not, Bool.not_eq_true', Bool.not_eq_false'] at *); first | omega | (simp_all <;> fail) | (simp_all; omega)))))) <| Sub.nil _) rfl hM
  rintro  w1 hM
  refine C.cond' rfl (fun hC0 => ?_) (fun hC0 => ?_)
  ·
    refine C.seq <| C.region <| ?_
    refine E.call rfl rfl (alive_ret _) ?_
    rintro _ wz ⟨rfl, xz⟩
    have hM := hM.ext xz
    try dsimp only [List.nil_append, List.cons_append, List.set_cons_zero, List.set_cons_succ, repl] at hM
    refine E.asg rfl rfl <| E.nil <| X.next <| C.ret <| X.retT <| ret1 rfl rfl ?_
    exact ⟨rfl, hM.toExt⟩
  ·
    have hbl := hb.1
    have hs1 : ls.length ≤ 40 := by omega
    have hs2 : Jn.siz ls ≤ 3000 := by omega
    have hok := small_ok hs1 hs2
    have hel := Jn.encs_len ls
    refine C.skip <| X.next <| C.seq <| C.region <| E.mv rfl rfl <| ?_
    refine E.call rfl rfl (written_ret q hs0 ls _ (hM.arg0 hr) (hb.ext hM.toExt) hs1 hs2) ?_
    rintro _ w2 ⟨b, vr, hs, rfl, m⟩
    have hM := hM.call m
    try dsimp only [List.nil_append, List.cons_append, List.set_cons_zero, List.set_cons_succ, repl] at hM
    refine E.mv rfl rfl <| E.ext rfl rfl rfl <| E.ext rfl rfl rfl <| E.asg rfl rfl <| E.asg rfl rfl <| E.nil <| X.next <| C.seq <| C.seq <| C.region <| E.mv rfl rfl <| E.not rfl rfl <| E.nil <| X.next <| ?_
    refine C.cond rfl (fun hC1 => ?_) (fun hC1 => ?_)
    ·
      cases hC1
    ·
      refine C.skip <| X.next <| C.seq <| C.region <| E.mv rfl rfl <| ?_
      refine E.call rfl rfl (BytesE_ret b vr hs ls _ hM.sep hok) ?_
      rintro v30 w3 m
      have hM := hM.call m
      try dsimp only [List.nil_append, List.cons_append, List.set_cons_zero, List.set_cons_succ, repl] at hM
      refine E.asg rfl rfl <| E.nil <| X.next <| C.seq <| ?_

      refine C.chainE [(0, _), (1, _), (5, _), (7, _)] rfl [(38, .bool (decide (lost < 0 ∨ (Jn.siz ls : Int) < lost)))] ?_ ?_
      ·
        refine C.region <| E.mv rfl rfl <| E.bin rfl rfl rfl rfl <| E.mv rfl rfl <| ?_
        refine E.split 33 rfl (fun g33 => ?_) (fun g33 => ?_)
        ·
          try simp only [decide_eq_true_eq, decide_eq_false_iff_not, ne_eq, Decidable.not_not, Bool.not_eq_true', Bool.not_eq_false'] at g33
          refine E.off rfl rfl rfl rfl <| E.off rfl rfl rfl rfl <| E.off rfl rfl rfl rfl <| E.off rfl rfl rfl rfl <| E.pick rfl rfl rfl <| E.nil <| X.join0 (Sub.cons (by (first | exact leaf_f (by omega) | exact leaf_t (by omega) | exact leaf_d (by omega) | exact leaf_f (by first | (simp [*] <;> fail) | omega) | exact leaf_t (by first | (simp [*] <;> fail) | omega) | exact leaf_d (by first | (simp [*] <;> fail) | omega) | exact leaf_f (by (first | omega | ((try simp only [decide_eq_true_eq, decide_eq_false_iff_not, Bool.not_eq_true', Bool.not_eq_false'] at *); first | omega | (simp_all <;> fail) | (simp_all; omega)))) | exact leaf_t (by (first | omega | ((try simp only [decide_eq_true_eq, decide_eq_false_iff_not, Bool.not_eq_true', Bool.not_eq_false'] at *); first | omega | (simp_all <;> fail) | (simp_all; omega)))) | exact leaf_d (by (first | omega | ((try simp only [decide_eq_true_eq, decide_eq_false_iff_not, Bool.not_eq_true', Bool.not_eq_false'] at *); first | omega | (simp_all <;> fail) | (simp_all; omega)))))) <| Sub.nil _) rfl rfl
        ·
          try simp only [decide_eq_true_eq, decide_eq_false_iff_not, ne_eq, Decidable.not_not, Bool.not_eq_true', Bool.not_eq_false'] at g33
          refine E.on rfl rfl (E.mv rfl rfl ?_)
          refine E.on rfl rfl (E.mv rfl rfl ?_)
          refine E.on rfl rfl (E.lenv rfl (Rd.shape (by first | exact hM.sl 0 rfl | exact hM.sl 1 rfl | exact hM.sl 2 rfl | exact hM.sl 3 rfl | exact hM.sl 4 rfl | exact hM.sl 5 rfl | exact hM.sl 6 rfl | exact hM.sl 7 rfl | exact hM.arg0 (by assumption) | exact hM.arg (by assumption) (by assumption) | assumption)) Try.underlying22 rfl ?_)
          rw [hel]
          refine E.on rfl rfl (E.bin rfl rfl rfl rfl ?_)
          refine E.pick rfl rfl rfl <| E.nil <| X.join0 (Sub.cons (by (first | exact leaf_f (by omega) | exact leaf_t (by omega) | exact leaf_d (by omega) | exact leaf_f (by first | (simp [*] <;> fail) | omega) | exact leaf_t (by first | (simp [*] <;> fail) | omega) | exact leaf_d (by first | (simp [*] <;> fail) | omega) | exact leaf_f (by (first | omega | ((try simp only [decide_eq_true_eq, decide_eq_false_iff_not, Bool.not_eq_true', Bool.not_eq_false'] at *); first | omega | (simp_all <;> fail) | (simp_all; omega)))) | exact leaf_t (by (first | omega | ((try simp only [decide_eq_true_eq, decide_eq_false_iff_not, Bool.not_eq_true', Bool.not_eq_false'] at *); first | omega | (simp_all <;> fail) | (simp_all; omega)))) | exact leaf_d (by (first | omega | ((try simp only [decide_eq_true_eq, decide_eq_false_iff_not, Bool.not_eq_true', Bool.not_eq_false'] at *); first | omega | (simp_all <;> fail) | (simp_all; omega)))))) <| Sub.nil _) rfl rfl
      refine C.cond' rfl (fun hC2 => ?_) (fun hC2 => ?_)
      ·

        refine C.cut0 [] rfl [(4, .bool true)] (fun w' => M w (Nn) w' []) ?_ ?_
        ·
          refine C.region <| E.mv rfl rfl <| E.mv rfl rfl <| ?_
          refine E.call rfl rfl (Truncate_ret b vr hs ls lost _ (hM.pick [0, 1, 2] (by decide)).sep hok) ?_
          rintro _ w4 ⟨e4, ls4, rfl, hsp, vr4, hs4, m4⟩
          have hM := hM.calls [0, 1, 2] (by decide) rfl (by simp) m4
          obtain ⟨rfl, rfl⟩ : e4 = 3 ∧ ls4 = ls := by
            rcases hsp with ⟨_, h1, h2⟩ | ⟨h1, h2, _⟩
            · exact ⟨h1, h2⟩
            · omega
          try dsimp only [List.nil_append, List.cons_append, List.set_cons_zero, List.set_cons_succ, repl] at hM
          refine E.bin rfl rfl rfl rfl <| E.mv rfl rfl <| ?_
          refine E.split 43 rfl (fun g43 => ?_) (fun g43 => ?_)
          ·
            try simp only [decide_eq_true_eq, decide_eq_false_iff_not, ne_eq, Decidable.not_not, Bool.not_eq_true', Bool.not_eq_false'] at g43
            refine E.on rfl rfl (E.mv rfl rfl ?_)
            refine E.on rfl rfl (E.call rfl rfl (RecordsE_ret b vr4 hs4 ls4 _ (hM.pick [0, 1, 2] (by decide)).sep hok) ?_)
            rintro v45 w5 ⟨hs5, m⟩
            have hM := hM.call m
            try dsimp only [List.nil_append, List.cons_append, List.set_cons_zero, List.set_cons_succ, repl] at hM
            refine E.on rfl rfl (E.mv rfl rfl ?_)
            refine E.on rfl rfl (E.call rfl rfl (Same_ret v45 q hs5 hs0 _ _ _ (hM.sl 4 rfl) (hM.bag 5 rfl) (hM.arg0 hr) (hb.ext hM.toExt)) ?_)
            rintro _ w6 ⟨rfl, x6⟩
            have hM := hM.ext x6
            rw [decide_eq_true rfl]
            try dsimp only [List.nil_append, List.cons_append, List.set_cons_zero, List.set_cons_succ, repl] at hM
            refine E.pick rfl rfl rfl <| E.mv rfl rfl <| ?_
            refine E.split 49 rfl (fun g49 => ?_) (fun g49 => ?_)
            ·
              try simp only [decide_eq_true_eq, decide_eq_false_iff_not, ne_eq, Decidable.not_not, Bool.not_eq_true', Bool.not_eq_false'] at g49
              refine E.on rfl rfl (E.call rfl rfl (alive_ret _) ?_)
              rintro _ wz ⟨rfl, xz⟩
              have hM := hM.ext xz
              try dsimp only [List.nil_append, List.cons_append, List.set_cons_zero, List.set_cons_succ, repl] at hM

              refine E.pick rfl rfl rfl <| E.asg rfl rfl <| E.nil <| X.join0  (Sub.cons rfl <| Sub.nil _) rfl (hM.pick [] (by decide))
            ·
              try simp only [decide_eq_true_eq, decide_eq_false_iff_not, ne_eq, Decidable.not_not, Bool.not_eq_true', Bool.not_eq_false'] at g49
              exact absurd g49 (by decide)
          ·
            try simp only [decide_eq_true_eq, decide_eq_false_iff_not, ne_eq, Decidable.not_not, Bool.not_eq_true', Bool.not_eq_false'] at g43
            exact absurd g43 (by decide)
        rintro  w9 hM
        refine C.ret <| X.retT <| ret1 rfl rfl ?_
        exact ⟨rfl, hM.toExt⟩
      ·
        obtain ⟨lost, rfl⟩ : ∃ n : Nat, lost = (n : Int) := ⟨lost.toNat, by omega⟩
        have hlo : lost ≤ Jn.siz ls := by omega
        refine C.skip <| X.next <| C.seq <| C.region <| E.asg rfl rfl <| E.asg rfl rfl <| E.nil <| X.next <| C.seq <| C.block <| ?_

        refine C.loop1 [(0, _), (1, _), (5, _), (7, _)] rfl (fun (k : Nat) => [(8, i64 (Jn.siz (ls.take k) : Int)), (9, i64 k)]) (fun (k : Nat) w' => M w (Nn) w' (J3 b vr hs ls ++ [Rg.sl u8 5 v30 (Jn.encs ls)]) ∧ k ≤ ls.length ∧ Jn.siz (ls.take k) ≤ Jn.siz ls - lost) (fun (k : Nat) => ls.length - k) 0 ?_ ?_ ?_
        · exact Sub.cons rfl <| Sub.cons rfl <| Sub.nil _
        · exact ⟨hM, Nat.zero_le _, Nat.zero_le _⟩
        rintro k w10 ⟨hM, hk, hkn⟩
        refine C.seq <| ?_

        refine C.chainE [(0, _), (1, _), (5, _), (7, _), (8, _), (9, _)] rfl [(70, .bool (decide (k < ls.length ∧ Jn.siz (ls.take (k + 1)) ≤ Jn.siz ls - lost)))] ?_ ?_
        ·
          refine C.region <| E.mv rfl rfl <| E.mv rfl rfl <| ?_
          refine E.lenv rfl (Rd.shape (hM.arg0 hr)) Try.underlying27 rfl ?_
          refine E.bin rfl rfl rfl rfl <| E.mv rfl rfl <| ?_
          refine E.split 56 rfl (fun g56 => ?_) (fun g56 => ?_)
          ·
            try simp only [decide_eq_true_eq, decide_eq_false_iff_not, ne_eq, Decidable.not_not, Bool.not_eq_true', Bool.not_eq_false'] at g56
            have hk' : k < ls.length := by omega
            have hss := siz_take_succ hk'
            have hmo := Jn.siz_mono ls (k + 1)
            have hel2 : ((Jn.encs ls).length : Int) = (Jn.siz ls : Int) := by rw [hel]
            refine E.on rfl rfl (E.mv rfl rfl ?_)
            refine E.on rfl rfl (E.add rfl rfl (by omega) rfl ?_)
            refine E.on rfl rfl (E.mv rfl rfl ?_)
            refine E.on rfl rfl (E.mv rfl rfl ?_)
            refine E.on rfl rfl (E.idx1 (k := _) rfl rfl (by first | exact hM.sl 0 rfl | exact hM.sl 1 rfl | exact hM.sl 2 rfl | exact hM.sl 3 rfl | exact hM.sl 4 rfl | exact hM.sl 5 rfl | exact hM.sl 6 rfl | exact hM.sl 7 rfl | exact hM.arg0 (by assumption) | exact hM.arg (by assumption) (by assumption) | assumption) rfl (by first | omega | (simp only [List.length_replicate, List.length_append, List.length_set, List.length_cons, List.length_nil, List.length_map, List.length_range, List.length_take, List.length_drop, List.length_zipWith] at *; omega)) Try.underlying27 (by kernel_rfl) rfl ?_)
            refine E.on rfl rfl (E.load rfl Try.underlying22 rfl (by first | exact (hM.sl 0 rfl).cellA rfl (by first | omega | (simp only [List.length_replicate, List.length_append, List.length_set, List.length_cons, List.length_nil, List.length_map, List.length_range, List.length_take, List.length_drop, List.length_zipWith] at *; omega)) | exact (hM.sl 1 rfl).cellA rfl (by first | omega | (simp only [List.length_replicate, List.length_append, List.length_set, List.length_cons, List.length_nil, List.length_map, List.length_range, List.length_take, List.length_drop, List.length_zipWith] at *; omega)) | exact (hM.sl 2 rfl).cellA rfl (by first | omega | (simp only [List.length_replicate, List.length_append, List.length_set, List.length_cons, List.length_nil, List.length_map, List.length_range, List.length_take, List.length_drop, List.length_zipWith] at *; omega)) | exact (hM.sl 3 rfl).cellA rfl (by first | omega | (simp only [List.length_replicate, List.length_append, List.length_set, List.length_cons, List.length_nil, List.length_map, List.length_range, List.length_take, List.length_drop, List.length_zipWith] at *; omega)) | exact (hM.sl 4 rfl).cellA rfl (by first | omega | (simp only [List.length_replicate, List.length_append, List.length_set, List.length_cons, List.length_nil, List.length_map, List.length_range, List.length_take, List.length_drop, List.length_zipWith] at *; omega)) | exact (hM.sl 5 rfl).cellA rfl (by first | omega | (simp only [List.length_replicate, List.length_append, List.length_set, List.length_cons, List.length_nil, List.length_map, List.length_range, List.length_take, List.length_drop, List.length_zipWith] at *; omega)) | exact (hM.sl 6 rfl).cellA rfl (by first | omega | (simp only [List.length_replicate, List.length_append, List.length_set, List.length_cons, List.length_nil, List.length_map, List.length_range, List.length_take, List.length_drop, List.length_zipWith] at *; omega)) | exact (hM.sl 7 rfl).cellA rfl (by first | omega | (simp only [List.length_replicate, List.length_append, List.length_set, List.length_cons, List.length_nil, List.length_map, List.length_range, List.length_take, List.length_drop, List.length_zipWith] at *; omega)) | exact (hM.arg0 (by assumption)).cellA rfl (by first | omega | (simp only [List.length_replicate, List.length_append, List.length_set, List.length_cons, List.length_nil, List.length_map, List.length_range, List.length_take, List.length_drop, List.length_zipWith] at *; omega)) | exact (hM.arg (by assumption) (by assumption)).cellA rfl (by first | omega | (simp only [List.length_replicate, List.length_append, List.length_set, List.length_cons, List.length_nil, List.length_map, List.length_range, List.length_take, List.length_drop, List.length_zipWith] at *; omega))) rfl ?_)
            refine E.on rfl rfl (E.lenv rfl (Rd.shape ((hb.at hk').ext hM.toExt)) Try.underlying22 rfl ?_)
            refine E.on rfl rfl (E.add rfl rfl (by omega) rfl ?_)
            refine E.on rfl rfl (E.mv rfl rfl ?_)
            refine E.on rfl rfl (E.lenv rfl (Rd.shape (by first | exact hM.sl 0 rfl | exact hM.sl 1 rfl | exact hM.sl 2 rfl | exact hM.sl 3 rfl | exact hM.sl 4 rfl | exact hM.sl 5 rfl | exact hM.sl 6 rfl | exact hM.sl 7 rfl | exact hM.arg0 (by assumption) | exact hM.arg (by assumption) (by assumption) | assumption)) Try.underlying22 rfl ?_)
            refine E.on rfl rfl (E.mv rfl rfl ?_)
            refine E.on rfl rfl (E.sub' rfl rfl (by omega) rfl ?_)
            refine E.on rfl rfl (E.bin rfl rfl rfl rfl ?_)
            refine E.pick rfl rfl rfl <| E.nil <| X.join0 (Sub.cons (by (first | exact leaf_f (by omega) | exact leaf_t (by omega) | exact leaf_d (by omega) | exact leaf_f (by first | (simp [*] <;> fail) | omega) | exact leaf_t (by first | (simp [*] <;> fail) | omega) | exact leaf_d (by first | (simp [*] <;> fail) | omega) | exact leaf_f (by (first | omega | ((try simp only [decide_eq_true_eq, decide_eq_false_iff_not, Bool.not_eq_true', Bool.not_eq_false'] at *); first | omega | (simp_all <;> fail) | (simp_all; omega)))) | exact leaf_t (by (first | omega | ((try simp only [decide_eq_true_eq, decide_eq_false_iff_not, Bool.not_eq_true', Bool.not_eq_false'] at *); first | omega | (simp_all <;> fail) | (simp_all; omega)))) | exact leaf_d (by (first | omega | ((try simp only [decide_eq_true_eq, decide_eq_false_iff_not, Bool.not_eq_true', Bool.not_eq_false'] at *); first | omega | (simp_all <;> fail) | (simp_all; omega)))))) <| Sub.nil _) rfl rfl
          ·
            try simp only [decide_eq_true_eq, decide_eq_false_iff_not, ne_eq, Decidable.not_not, Bool.not_eq_true', Bool.not_eq_false'] at g56
            refine E.off rfl rfl rfl rfl <| E.off rfl rfl rfl rfl <| E.off rfl rfl rfl rfl <| E.off rfl rfl rfl rfl <| E.off rfl rfl rfl rfl <| E.off rfl rfl rfl rfl <| E.off rfl rfl rfl rfl <| E.off rfl rfl rfl rfl <| E.off rfl rfl rfl rfl <| E.off rfl rfl rfl rfl <| E.off rfl rfl rfl rfl <| E.off rfl rfl rfl rfl <| E.off rfl rfl rfl rfl <| E.pick rfl rfl rfl <| E.nil <| X.join0 (Sub.cons (by (first | exact leaf_f (by omega) | exact leaf_t (by omega) | exact leaf_d (by omega) | exact leaf_f (by first | (simp [*] <;> fail) | omega) | exact leaf_t (by first | (simp [*] <;> fail) | omega) | exact leaf_d (by first | (simp [*] <;> fail) | omega) | exact leaf_f (by (first | omega | ((try simp only [decide_eq_true_eq, decide_eq_false_iff_not, Bool.not_eq_true', Bool.not_eq_false'] at *); first | omega | (simp_all <;> fail) | (simp_all; omega)))) | exact leaf_t (by (first | omega | ((try simp only [decide_eq_true_eq, decide_eq_false_iff_not, Bool.not_eq_true', Bool.not_eq_false'] at *); first | omega | (simp_all <;> fail) | (simp_all; omega)))) | exact leaf_d (by (first | omega | ((try simp only [decide_eq_true_eq, decide_eq_false_iff_not, Bool.not_eq_true', Bool.not_eq_false'] at *); first | omega | (simp_all <;> fail) | (simp_all; omega)))))) <| Sub.nil _) rfl rfl
        refine C.cond' rfl (fun hC3 => ?_) (fun hC3 => ?_)
        ·
          have hk' := hC3.1
          have hss := siz_take_succ hk'
          have hmo := Jn.siz_mono ls (k + 1)
          refine C.skip <| X.next <| C.block <| C.seq <| C.region <| E.mv rfl rfl <| ?_
          refine E.addN (b := 8) rfl rfl (by first | omega | (simp only [List.length_replicate, List.length_append, List.length_set, List.length_cons, List.length_nil, List.length_map, List.length_range, List.length_take, List.length_drop, List.length_zipWith] at *; omega)) rfl ?_
          refine E.mv rfl rfl <| E.mv rfl rfl <| ?_
          refine E.get (k := _) rfl rfl (by first | exact hM.sl 0 rfl | exact hM.sl 1 rfl | exact hM.sl 2 rfl | exact hM.sl 3 rfl | exact hM.sl 4 rfl | exact hM.sl 5 rfl | exact hM.sl 6 rfl | exact hM.sl 7 rfl | exact hM.arg0 (by assumption) | exact hM.arg (by assumption) (by assumption) | assumption) rfl (by first | omega | (simp only [List.length_replicate, List.length_append, List.length_set, List.length_cons, List.length_nil, List.length_map, List.length_range, List.length_take, List.length_drop, List.length_zipWith] at *; omega)) Try.underlying27 (by kernel_rfl) Try.underlying22 rfl rfl rfl ?_
          refine E.lenv rfl (Rd.shape ((hb.at hk').ext hM.toExt)) Try.underlying22 rfl ?_
          refine E.addN rfl rfl (by first | omega | (simp only [List.length_replicate, List.length_append, List.length_set, List.length_cons, List.length_nil, List.length_map, List.length_range, List.length_take, List.length_drop, List.length_zipWith] at *; omega)) rfl ?_
          refine E.asg rfl rfl <| E.nil <| X.next <| C.region <| E.mv rfl rfl <| ?_
          refine E.addN (b := 1) rfl rfl (by first | omega | (simp only [List.length_replicate, List.length_append, List.length_set, List.length_cons, List.length_nil, List.length_map, List.length_range, List.length_take, List.length_drop, List.length_zipWith] at *; omega)) rfl ?_

          refine E.asg rfl rfl <| E.nil <| X.outN <| X.again1 (k + 1) (Sub.cons (look_val rfl (by rw [hss]; omega)) <| Sub.cons rfl <| Sub.nil _) rfl ⟨hM, by omega, hC3.2⟩ (by omega)
        ·
          have hfit := Jn.fit_eq (ls := ls) (n := Jn.siz ls - lost) hk hkn (fun h => by omega)
          have hrt := Jn.recs_take ls 65536 (Jn.siz ls - lost) hok.2.2 hok.1
          rw [hfit] at hrt
          refine C.exit <| X.exitT <| X.exitT <| X.outE <| X.next <| C.seq <| C.region <| E.mv rfl rfl <| E.mv rfl rfl <| ?_
          refine E.lenv rfl (Rd.shape (by first | exact hM.sl 0 rfl | exact hM.sl 1 rfl | exact hM.sl 2 rfl | exact hM.sl 3 rfl | exact hM.sl 4 rfl | exact hM.sl 5 rfl | exact hM.sl 6 rfl | exact hM.sl 7 rfl | exact hM.arg0 (by assumption) | exact hM.arg (by assumption) (by assumption) | assumption)) Try.underlying22 rfl ?_
          rw [hel]
          refine E.mv rfl rfl <| ?_
          refine E.subN (a := Jn.siz ls) (b := lost) rfl rfl (by omega) rfl ?_
          refine E.slcP (k := .i64) 0 (Jn.siz ls - lost) rfl (.inr ⟨rfl, rfl⟩) (.inl rfl) (hM.sl 3 rfl) Try.underlying22 (by kernel_rfl) (by omega) (by omega) rfl ?_
          have r87 := (hM.sl 3 rfl).partV (a := 0) (b := Jn.siz ls - lost) (by omega) (by omega)
          rw [cut_take] at r87
          refine E.call rfl rfl (Recover_ret _ _ _ r87) ?_
          rintro _ w7 ⟨u7, hs7, rfl, m7⟩
          rw [hrt] at m7 ⊢
          have hM := hM.call m7
          try dsimp only [List.nil_append, List.cons_append, List.set_cons_zero, List.set_cons_succ, repl] at hM
          refine E.mv rfl rfl <| E.ext rfl rfl rfl <| E.ext rfl rfl rfl <| E.asg rfl rfl <| E.asg rfl rfl <| E.nil <| X.next <| C.seq <| C.region <| E.mv rfl rfl <| E.mv rfl rfl <| ?_
          refine E.call rfl rfl (Truncate_ret b vr hs ls (lost : Int) _ (hM.pick [0, 1, 2] (by decide)).sep hok) ?_
          rintro _ w8 ⟨e8, ls8, rfl, hsp, vr8, hs8, m8⟩
          have hM := hM.calls [0, 1, 2] (by decide) rfl (by simp) m8
          obtain ⟨rfl, rfl⟩ : e8 = 0 ∧ ls8 = ls.take k := by
            rcases hsp with ⟨h1, _⟩ | ⟨_, _, h1, h2⟩
            · omega
            · exact ⟨h1, by rw [h2, Int.toNat_natCast, hfit]⟩
          have hM : M w Nn _ (J3 b vr8 hs8 (ls.take k) ++ [Rg.sl u8 5 v30 (Jn.encs ls), Rg.sl slv 22 u7 hs7, Rg.bag hs7 (ls.take k)]) := hM
          have hok8 := hok.take k
          have rk : ∀ w', Ext w w' → RdL slv w' (partV q 0 k) (hs0.take k) := fun w' x => by
            have := (hr.ext x).partV (a := 0) (b := k) (by omega) (by omega)
            rw [cut_take] at this; exact this
          have bk : ∀ w', Ext w w' → Bag w' (hs0.take k) (ls.take k) := fun w' x => (hb.ext x).take k
          have hek := Jn.encs_len (ls.take k)
          try dsimp only [List.nil_append, List.cons_append, List.set_cons_zero, List.set_cons_succ, repl] at hM
          refine E.asg rfl rfl <| E.nil <| X.next <| ?_

          refine C.cut0 [] rfl [(4, .bool true)] (fun w' => M w (Nn) w' []) ?_ ?_
          ·
            refine C.heldE (by kernel_rfl) fun wh13 hwh13 _ => ?_
            have hS := hwh13
            have hM0 := hM
            have hM := M.ofExt hwh13
            refine H.take 0 rfl rfl (by kernel_rfl) (by kernel_rfl) (by kernel_rfl) hS (fun w' hS => by have hM := hM0.ext hS; exact Y.mv rfl) rfl ?_
            refine H.take 1 rfl rfl (by kernel_rfl) (by kernel_rfl) (by kernel_rfl) hS (fun w' hS => by have hM := hM0.ext hS; exact Y.mv rfl) rfl ?_
            refine H.take 2 rfl rfl (by kernel_rfl) (by kernel_rfl) (by kernel_rfl) hS (fun w' hS => by have hM := hM0.ext hS; exact Y.mv rfl) rfl ?_
            refine H.takeV 3 rfl rfl (by kernel_rfl) (by kernel_rfl) (by kernel_rfl) hS (Y.slcP (k := .i64) 0 k rfl (.inr ⟨rfl, rfl⟩) (.inl rfl) ((hM0.ext hS).arg0 hr) Try.underlying27 (by kernel_rfl) (by omega) (by omega)) (fun w' hS => by have hM := hM0.ext hS; exact Y.slcP (k := .i64) 0 k rfl (.inr ⟨rfl, rfl⟩) (.inl rfl) ((hM0.ext hS).arg0 hr) Try.underlying27 (by kernel_rfl) (by omega) (by omega)) rfl ?_
            refine H.only 4 rfl (by kernel_rfl) ?_
            refine E.call rfl rfl (Same_ret u7 _ hs7 _ _ _ _ ((hM0.call hM).sl 4 rfl) ((hM0.call hM).bag 5 rfl) (rk _ (hM0.call hM).toExt) (bk _ (hM0.call hM).toExt)) ?_
            rintro _ wa ⟨rfl, xa⟩
            have hM := hM.ext xa
            rw [decide_eq_true rfl]
            try dsimp only [List.nil_append, List.cons_append, List.set_cons_zero, List.set_cons_succ, repl] at hM
            have hS := hM.toExt
            refine H.back hS ?_
            refine H.take 5 rfl rfl (by kernel_rfl) (by kernel_rfl) (by kernel_rfl) hS (fun w' hS => by have hM := hM0.ext hS; exact Y.mv rfl) rfl ?_
            refine H.split 99 rfl (fun g99 => ?_) (fun g99 => ?_)
            ·
              try simp only [decide_eq_true_eq, decide_eq_false_iff_not, ne_eq, Decidable.not_not, Bool.not_eq_true', Bool.not_eq_false'] at g99
              refine H.take 6 rfl rfl (by kernel_rfl) (by kernel_rfl) (by kernel_rfl) hS (fun w' hS => by have hM := hM0.ext hS; exact Y.on rfl rfl (Y.mv rfl)) rfl ?_
              refine H.take 7 rfl rfl (by kernel_rfl) (by kernel_rfl) (by kernel_rfl) hS (fun w' hS => by have hM := hM0.ext hS; exact Y.on rfl rfl (Y.mv rfl)) rfl ?_
              refine H.take 8 rfl rfl (by kernel_rfl) (by kernel_rfl) (by kernel_rfl) hS (fun w' hS => by have hM := hM0.ext hS; exact Y.on rfl rfl (Y.bin rfl rfl rfl)) rfl ?_
              refine H.take 9 rfl rfl (by kernel_rfl) (by kernel_rfl) (by kernel_rfl) hS (fun w' hS => by have hM := hM0.ext hS; exact Y.pick rfl rfl) rfl ?_
              refine H.take 10 rfl rfl (by kernel_rfl) (by kernel_rfl) (by kernel_rfl) hS (fun w' hS => by have hM := hM0.ext hS; exact Y.mv rfl) rfl ?_
              refine H.split 104 rfl (fun g104 => ?_) (fun g104 => ?_)
              ·
                try simp only [decide_eq_true_eq, decide_eq_false_iff_not, ne_eq, Decidable.not_not, Bool.not_eq_true', Bool.not_eq_false'] at g104
                refine H.take 11 rfl rfl (by kernel_rfl) (by kernel_rfl) (by kernel_rfl) hS (fun w' hS => by have hM := hM0.ext hS; exact Y.on rfl rfl (Y.mv rfl)) rfl ?_
                refine H.take 12 rfl rfl (by kernel_rfl) (by kernel_rfl) (by kernel_rfl) hS (fun w' hS => by have hM := hM0.ext hS; exact Y.on rfl rfl (Y.bin rfl rfl rfl)) rfl ?_
                refine H.take 13 rfl rfl (by kernel_rfl) (by kernel_rfl) (by kernel_rfl) hS (fun w' hS => by have hM := hM0.ext hS; exact Y.pick rfl rfl) rfl ?_
                refine H.take 14 rfl rfl (by kernel_rfl) (by kernel_rfl) (by kernel_rfl) hS (fun w' hS => by have hM := hM0.ext hS; exact Y.mv rfl) rfl ?_
                refine H.split 108 rfl (fun g108 => ?_) (fun g108 => ?_)
                ·
                  try simp only [decide_eq_true_eq, decide_eq_false_iff_not, ne_eq, Decidable.not_not, Bool.not_eq_true', Bool.not_eq_false'] at g108
                  refine H.take 15 rfl rfl (by kernel_rfl) (by kernel_rfl) (by kernel_rfl) hS (fun w' hS => by have hM := hM0.ext hS; exact Y.on rfl rfl (Y.mv rfl)) rfl ?_
                  refine H.take 17 rfl rfl (by kernel_rfl) (by kernel_rfl) (by kernel_rfl) hS (fun w' hS => by have hM := hM0.ext hS; exact Y.on rfl rfl (Y.mv rfl)) rfl ?_
                  refine H.take 18 rfl rfl (by kernel_rfl) (by kernel_rfl) (by kernel_rfl) hS (fun w' hS => by have hM := hM0.ext hS; exact Y.on rfl rfl (Y.mv rfl)) rfl ?_
                  refine H.takeV 19 rfl rfl (by kernel_rfl) (by kernel_rfl) (by kernel_rfl) hS (Y.on rfl rfl (Y.slcP (k := .i64) 0 k rfl (.inr ⟨rfl, rfl⟩) (.inl rfl) ((hM0.ext hS).arg0 hr) Try.underlying27 (by kernel_rfl) (by omega) (by omega))) (fun w' hS => by have hM := hM0.ext hS; exact Y.on rfl rfl (Y.slcP (k := .i64) 0 k rfl (.inr ⟨rfl, rfl⟩) (.inl rfl) ((hM0.ext hS).arg0 hr) Try.underlying27 (by kernel_rfl) (by omega) (by omega))) rfl ?_
                  refine H.only 16 rfl (by kernel_rfl) ?_
                  refine E.on rfl rfl (E.call rfl rfl (RecordsE_ret b vr8 hs8 _ _ ((hM0.call hM).pick [0, 1, 2] (by decide)).sep hok8) ?_)
                  rintro v110 wb ⟨hsb, mb⟩
                  have hM := hM.call mb
                  try dsimp only [List.nil_append, List.cons_append, List.set_cons_zero, List.set_cons_succ, repl] at hM
                  have hS := hM.toExt
                  refine H.back hS ?_
                  refine H.only 20 rfl (by kernel_rfl) ?_
                  refine E.on rfl rfl (E.call rfl rfl (Same_ret v110 _ hsb _ _ _ _ (hM.sl 0 rfl) (hM.bag 1 rfl) (rk _ (hM0.call hM).toExt) (bk _ (hM0.call hM).toExt)) ?_)
                  rintro _ wc ⟨rfl, xc⟩
                  have hM := hM.ext xc
                  rw [decide_eq_true rfl]
                  try dsimp only [List.nil_append, List.cons_append, List.set_cons_zero, List.set_cons_succ, repl] at hM
                  have hS := hM.toExt
                  refine H.back hS ?_
                  refine H.take 21 rfl rfl (by kernel_rfl) (by kernel_rfl) (by kernel_rfl) hS (fun w' hS => by have hM := hM0.ext hS; exact Y.pick rfl rfl) rfl ?_
                  refine H.take 22 rfl rfl (by kernel_rfl) (by kernel_rfl) (by kernel_rfl) hS (fun w' hS => by have hM := hM0.ext hS; exact Y.mv rfl) rfl ?_
                  refine H.split 116 rfl (fun g116 => ?_) (fun g116 => ?_)
                  ·
                    try simp only [decide_eq_true_eq, decide_eq_false_iff_not, ne_eq, Decidable.not_not, Bool.not_eq_true', Bool.not_eq_false'] at g116
                    refine H.take 23 rfl rfl (by kernel_rfl) (by kernel_rfl) (by kernel_rfl) hS (fun w' hS => by have hM := hM0.ext hS; exact Y.on rfl rfl (Y.mv rfl)) rfl ?_
                    refine H.take 26 rfl rfl (by kernel_rfl) (by kernel_rfl) (by kernel_rfl) hS (fun w' hS => by have hM := hM0.ext hS; exact Y.on rfl rfl (Y.mv rfl)) rfl ?_
                    refine H.only 24 rfl (by kernel_rfl) ?_
                    refine E.on rfl rfl (E.call rfl rfl (BytesE_ret b vr8 hs8 _ _ ((hM0.call hM).pick [0, 1, 2] (by decide)).sep hok8) ?_)
                    rintro v118 wd md
                    have hM := hM.call md
                    have sh118 := Rd.shape (hM.sl 2 rfl)
                    try dsimp only [List.nil_append, List.cons_append, List.set_cons_zero, List.set_cons_succ, repl] at hM
                    have hS := hM.toExt
                    refine H.back hS ?_
                    refine H.takeV 25 rfl rfl (by kernel_rfl) (by kernel_rfl) (by kernel_rfl) hS (Y.on rfl rfl (Y.lenv rfl sh118 Try.underlying22)) (fun w' hS => by have hM := hM0.ext hS; exact Y.on rfl rfl (Y.lenv rfl sh118 Try.underlying22)) rfl ?_
                    try rw [hek]
                    refine H.take 27 rfl rfl (by kernel_rfl) (by kernel_rfl) (by kernel_rfl) hS (fun w' hS => by have hM := hM0.ext hS; exact Y.on rfl rfl (Y.bin rfl rfl rfl)) rfl ?_
                    refine H.take 28 rfl rfl (by kernel_rfl) (by kernel_rfl) (by kernel_rfl) hS (fun w' hS => by have hM := hM0.ext hS; exact Y.pick rfl rfl) rfl ?_
                    refine H.take 29 rfl rfl (by kernel_rfl) (by kernel_rfl) (by kernel_rfl) hS (fun w' hS => by have hM := hM0.ext hS; exact Y.mv rfl) rfl ?_
                    refine H.split 123 rfl (fun g123 => ?_) (fun g123 => ?_)
                    ·
                      try simp only [decide_eq_true_eq, decide_eq_false_iff_not, ne_eq, Decidable.not_not, Bool.not_eq_true', Bool.not_eq_false'] at g123
                      refine H.only 30 rfl (by kernel_rfl) ?_
                      refine E.on rfl rfl (E.call rfl rfl (alive_ret _) ?_)
                      rintro _ we ⟨rfl, xe⟩
                      have hM := hM.ext xe
                      try dsimp only [List.nil_append, List.cons_append, List.set_cons_zero, List.set_cons_succ, repl] at hM
                      have hS := hM.toExt
                      refine H.back hS ?_
                      refine H.take 31 rfl rfl (by kernel_rfl) (by kernel_rfl) (by kernel_rfl) hS (fun w' hS => by have hM := hM0.ext hS; exact Y.pick rfl rfl) rfl ?_
                      refine H.take 32 rfl rfl (by kernel_rfl) (by kernel_rfl) (by kernel_rfl) hS (fun w' hS => by have hM := hM0.ext hS; exact Y.asg rfl) rfl ?_
                      refine H.done (by kernel_rfl) ?_
                      have hM := hM0.call hM

                      refine X.join0  (Sub.cons rfl <| Sub.nil _) rfl (hM.pick [] (by decide))
                    ·
                      try simp only [decide_eq_true_eq, decide_eq_false_iff_not, ne_eq, Decidable.not_not, Bool.not_eq_true', Bool.not_eq_false'] at g123
                      exact absurd g123 (by first | decide | (simp; done) | omega)
                  ·
                    try simp only [decide_eq_true_eq, decide_eq_false_iff_not, ne_eq, Decidable.not_not, Bool.not_eq_true', Bool.not_eq_false'] at g116
                    exact absurd g116 (by first | decide | (simp; done) | omega)
                ·
                  try simp only [decide_eq_true_eq, decide_eq_false_iff_not, ne_eq, Decidable.not_not, Bool.not_eq_true', Bool.not_eq_false'] at g108
                  exact absurd g108 (by first | decide | (simp; done) | omega)
              ·
                try simp only [decide_eq_true_eq, decide_eq_false_iff_not, ne_eq, Decidable.not_not, Bool.not_eq_true', Bool.not_eq_false'] at g104
                exact absurd g104 (by first | decide | (simp; done) | omega)
            ·
              try simp only [decide_eq_true_eq, decide_eq_false_iff_not, ne_eq, Decidable.not_not, Bool.not_eq_true', Bool.not_eq_false'] at g99
              exact absurd g99 (by first | decide | (simp; done) | omega)
          rintro  w19 hM
          refine C.ret <| ret1 rfl rfl ?_
          exact ⟨rfl, hM.toExt⟩

end Go.Proofs.Ytdcgmkoonanpgaa
