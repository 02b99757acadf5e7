/- journal: records and recovery. -/
import Derived.Test.YtdcgmkoonanpgaaJn1
namespace Go.Proofs.Ytdcgmkoonanpgaa
set_option linter.unusedSimpArgs false
set_option linter.unusedVariables false
open Go.RowKit Sym

abbrev LL := List (List UInt8)
theorem Off.none {S : Nat → Prop} {v : Value} {l : List UInt8} (h : ∀ k, ¬ S k) : Off S v l := .inr (h _)
theorem fp_nil {e : TypeId} (k : Nat) : ¬ fpU [Rg.sl u8 e nilS []] k := fun h => by have := fp1.1 h; cases this
/-- what Record answers -/
def RecAns (l : List UInt8) (v : Value) (w0 w : World) : Prop := ∃ u m e, v = .tuple #[u, i64 e] ∧ M w0 Nn w [Rg.sl u8 5 u m] ∧ ((4194304 < l.length ∧ m = [] ∧ e = 4) ∨ (l.length ≤ 4194304 ∧ m = Jn.rec l ∧ e = 0))
/-- what Recover answers -/
def RcvAns (l : List UInt8) (v : Value) (w0 w : World) : Prop := ∃ u hs, v = .tuple #[u, i64 (Jn.siz (Jn.recs 65536 l) : Int)] ∧ M w0 Nn w [Rg.sl slv 22 u hs, Rg.bag hs (Jn.recs 65536 l)]
/-- so many records have been recovered -/
def Rv (l : List UInt8) (done : List (List UInt8)) (a : Nat) : Prop := Jn.recs 65536 l = done ++ Jn.recs (65536 - done.length) (l.drop a) ∧ a = Jn.siz done ∧ a ≤ l.length ∧ done.length ≤ 65536
theorem Rv.start (l : List UInt8) : Rv l [] 0 := ⟨by rw [List.nil_append, List.length_nil, Nat.sub_zero, List.drop_zero], rfl, Nat.zero_le _, Nat.zero_le _⟩
theorem Rv.stop {l : List UInt8} {done : List (List UInt8)} {a : Nat} (h : Rv l done a) (h0 : Jn.first (l.drop a) = 0 ∨ done.length = 65536) : Jn.recs 65536 l = done := by
  rw [h.1]
  rcases Nat.lt_or_ge done.length 65536 with hl | hl
  · obtain ⟨k, hk⟩ : ∃ k, 65536 - done.length = k + 1 := ⟨65536 - done.length - 1, by omega⟩
    rw [hk, Jn.recs, if_pos (h0.resolve_right (by omega)), List.append_nil]
  · rw [show 65536 - done.length = 0 by omega, Jn.recs, List.append_nil]
theorem Rv.step {l : List UInt8} {done : List (List UInt8)} {a : Nat} (h : Rv l done a) (h0 : Jn.first (l.drop a) ≠ 0) (hl : done.length < 65536) {q : List UInt8} (hq : q = cutL (a + 4) (a + Jn.first (l.drop a) - 4) l) : Rv l (done ++ [q]) (a + Jn.first (l.drop a)) := by
  obtain ⟨k, hk⟩ : ∃ k, 65536 - done.length = k + 1 := ⟨65536 - done.length - 1, by omega⟩
  obtain ⟨g1, g2, g3⟩ := Jn.first_ge h0
  have hle := Jn.first_le (l.drop a)
  have hrf := (Jn.rec_first h0).2.1
  rw [List.length_drop] at hle
  have eq : q = ((l.drop a).drop 4).take (Jn.first (l.drop a) - 8) := by rw [hq, cutL, List.drop_drop]; congr 1; omega
  rw [← eq] at hrf
  refine ⟨?_, by rw [Jn.siz_app, Jn.siz_one, ← h.2.1, hrf], by have := h.2.2.1; omega, by simp; omega⟩
  rw [h.1, hk, Jn.recs, if_neg h0, ← eq, List.drop_drop, List.append_assoc, List.length_append, List.length_singleton, show 65536 - (done.length + 1) = k by omega]
  rfl
theorem cut_drop {α : Type} (a : Nat) (l : List α) : cutL a l.length l = l.drop a := by rw [cutL]; exact List.take_of_length_le (by simp)
theorem cut_take {α : Type} (b : Nat) (l : List α) : cutL 0 b l = l.take b := by simp [cutL]
theorem Record_ret (p : Value) (l : List UInt8) (w : World) (hl : RdL u8 w p l) :
    Ret Try.prog 15 #[p] w fun v w' => RecAns l v w w' := by
  have hM := M.start w
  refine enter Try.func15 rfl (by kernel_rfl) Try.ntmps15 rfl ?_
  refine C.seq <| C.region <| E.asg rfl rfl <| E.asg rfl rfl <| E.nil <| X.next <| C.seq <| C.seq <| C.region <| E.mv rfl rfl <| ?_
  refine E.lenv rfl (Rd.shape (by first | exact hM.sl 0 rfl | exact hM.sl 1 rfl | exact hM.sl 2 rfl | exact hM.sl 3 rfl | exact hM.arg0 (by assumption) | exact hM.arg (by assumption) (by assumption) | assumption)) Try.underlying22 rfl ?_
  refine E.bin rfl rfl rfl rfl <| E.nil <| X.next <| ?_
  refine C.cond' rfl (fun hC0 => ?_) (fun hC0 => ?_)
  ·
    refine C.seq <| C.region <| E.asg rfl rfl <| E.asg rfl rfl <| E.nil <| X.next <| C.ret <| X.retT <| ret2 rfl rfl rfl ?_
    exact ⟨_, [], _, rfl, hM.nil u8 5, .inl ⟨by omega, rfl, rfl⟩⟩
  ·
    refine C.skip <| X.next <| C.seq <| C.region <| E.mv rfl rfl <| ?_
    have hM := hM.nil u8 5
    try dsimp only [List.nil_append, List.cons_append, List.set_cons_zero, List.set_cons_succ, repl] at hM
    refine E.call rfl rfl (appendRecord_ret nilS p [] l _ (hM.sep1 0 rfl) (hM.arg0 hl) (Off.none fp_nil) (by omega) (by simp)) ?_
    rintro v8 w1 m1
    have hM := hM.call1 0 rfl (by simp) m1
    try dsimp only [List.nil_append, List.cons_append, List.set_cons_zero, List.set_cons_succ, repl] at hM
    refine E.asg rfl rfl <| E.asg rfl rfl <| E.nil <| X.next <| C.ret <| ret2 rfl rfl rfl ?_
    exact ⟨_, _, _, rfl, hM, .inr ⟨by omega, rfl, rfl⟩⟩

theorem rRecord_ret (p : Value) (l : List UInt8) (w : World) (hl : RdL u8 w p l) :
    Ret Try.prog 16 #[p] w fun v w' => RecAns l v w w' := by
  have hM := M.start w
  refine enter Try.func16 rfl (by kernel_rfl) Try.ntmps16 rfl ?_
  refine C.seq <| C.region <| E.asg rfl rfl <| E.asg rfl rfl <| E.nil <| X.next <| C.seq <| C.seq <| C.region <| E.mv rfl rfl <| ?_
  refine E.lenv rfl (Rd.shape (by first | exact hM.sl 0 rfl | exact hM.sl 1 rfl | exact hM.sl 2 rfl | exact hM.sl 3 rfl | exact hM.arg0 (by assumption) | exact hM.arg (by assumption) (by assumption) | assumption)) Try.underlying22 rfl ?_
  refine E.bin rfl rfl rfl rfl <| E.nil <| X.next <| ?_
  refine C.cond' rfl (fun hC0 => ?_) (fun hC0 => ?_)
  ·
    refine C.seq <| C.region <| E.asg rfl rfl <| E.asg rfl rfl <| E.nil <| X.next <| C.ret <| X.retT <| ret2 rfl rfl rfl ?_
    exact ⟨_, [], _, rfl, hM.nil u8 5, .inl ⟨by omega, rfl, rfl⟩⟩
  ·
    refine C.skip <| X.next <| C.seq <| C.region <| E.mv rfl rfl <| ?_
    refine E.lenv rfl (Rd.shape (by first | exact hM.sl 0 rfl | exact hM.sl 1 rfl | exact hM.sl 2 rfl | exact hM.sl 3 rfl | exact hM.arg0 (by assumption) | exact hM.arg (by assumption) (by assumption) | assumption)) Try.underlying22 rfl ?_
    refine E.conv rfl Try.underlying3 Try.underlying58 (IntWalk.u32_in _ (by omega)) rfl ?_
    refine E.call rfl rfl (rfour_ret l.length _ (by omega)) ?_
    rintro v11 w1 m
    have hM := hM.call m
    try dsimp only [List.nil_append, List.cons_append, List.set_cons_zero, List.set_cons_succ, repl] at hM
    refine E.mv rfl rfl <| ?_
    refine E.appendM 0 hM rfl rfl rfl Try.underlying22 elem_Tuint8 (hM.arg0 hl) (fun _ => rfl) (by rw [Jn.enc4_len]; omega) (by rw [Jn.enc4_len]; omega) rfl ?_
    intro v13 w1 hM
    try dsimp only [List.nil_append, List.cons_append, List.set_cons_zero, List.set_cons_succ, repl] at hM
    refine E.asg rfl rfl <| E.nil <| X.next <| C.seq <| C.region <| E.mv rfl rfl <| E.mv rfl rfl <| ?_
    refine E.call rfl rfl (rCrc32_ret v13 (Jn.head l) _ (hM.sl 0 rfl)) ?_
    rintro _ _ ⟨rfl, rfl⟩
    skip
    try dsimp only [List.nil_append, List.cons_append, List.set_cons_zero, List.set_cons_succ, repl] at hM
    refine E.call rfl rfl (rfour_ret (Jn.crcN (Jn.head l)) _ (Jn.crcN_lt _)) ?_
    rintro v17 w2 m
    have hM := hM.call m
    try dsimp only [List.nil_append, List.cons_append, List.set_cons_zero, List.set_cons_succ, repl] at hM
    refine E.appendM 0 hM rfl rfl rfl Try.underlying22 elem_Tuint8 (hM.sl 1 rfl) (fun _ => rfl) (by rw [Jn.enc4_len, List.length_append, Jn.enc4_len]; omega) (by rw [Jn.enc4_len, List.length_append, Jn.enc4_len]; omega) rfl ?_
    intro v18 w4 hM
    try dsimp only [List.nil_append, List.cons_append, List.set_cons_zero, List.set_cons_succ, repl] at hM
    refine E.asg rfl rfl <| E.asg rfl rfl <| E.nil <| X.next <| C.ret <| ret2 rfl rfl rfl ?_
    exact ⟨_, _, _, rfl, hM.pick [0] (by decide), .inr ⟨by omega, rfl, rfl⟩⟩

theorem first_ret (p : Value) (l : List UInt8) (w : World) (hl : RdL u8 w p l) :
    Ret Try.prog 51 #[p] w fun v w' => v = i64 (Jn.first l : Int) ∧ Ext w w' := by
  have hM := M.start w
  refine enter Try.func51 rfl (by kernel_rfl) Try.ntmps51 rfl ?_
  refine C.seq <| C.region <| E.asg rfl rfl <| E.nil <| X.next <| C.seq <| C.seq <| C.region <| E.mv rfl rfl <| ?_
  refine E.lenv rfl (Rd.shape (by first | exact hM.sl 0 rfl | exact hM.sl 1 rfl | exact hM.sl 2 rfl | exact hM.sl 3 rfl | exact hM.arg0 (by assumption) | exact hM.arg (by assumption) (by assumption) | assumption)) Try.underlying22 rfl ?_
  refine E.bin rfl rfl rfl rfl <| E.nil <| X.next <| ?_
  refine C.cond' rfl (fun hC0 => ?_) (fun hC0 => ?_)
  ·
    refine C.seq <| C.region <| E.asg rfl rfl <| E.nil <| X.next <| C.ret <| X.retT <| ret1 rfl rfl ?_
    exact ⟨by rw [Jn.first, if_pos (by omega)]; rfl, hM.toExt⟩
  ·
    refine C.skip <| X.next <| C.seq <| C.region <| E.mv rfl rfl <| ?_
    refine E.call rfl rfl (number_ret p l _ (hM.arg0 hl) (by omega)) ?_
    rintro _ w1 ⟨rfl, x1⟩
    have hM := hM.ext x1
    have hdl := Jn.dec4_lt l
    try dsimp only [List.nil_append, List.cons_append, List.set_cons_zero, List.set_cons_succ, repl] at hM
    refine E.asg rfl rfl <| E.nil <| X.next <| C.seq <| ?_

    refine C.chainE [(0, _), (3, _)] rfl [(19, .bool (decide (4194304 < Jn.dec4 l ∨ l.length < Jn.dec4 l + 8)))] ?_ ?_
    ·
      refine C.region <| E.mv rfl rfl <| E.bin rfl rfl rfl rfl <| E.mv rfl rfl <| ?_
      refine E.split 12 rfl (fun g12 => ?_) (fun g12 => ?_)
      ·
        try simp only [decide_eq_true_eq, decide_eq_false_iff_not, ne_eq, Decidable.not_not, Bool.not_eq_true', Bool.not_eq_false'] at g12
        refine E.off rfl rfl rfl rfl <| E.off rfl rfl rfl rfl <| E.off rfl rfl rfl rfl <| E.off rfl rfl rfl rfl <| E.off rfl rfl rfl rfl <| E.off rfl rfl rfl rfl <| E.pick rfl rfl rfl <| E.nil <| X.join0 (Sub.cons (by (first | exact leaf_f (by omega) | exact leaf_t (by omega) | exact leaf_d (by omega) | exact leaf_f (by first | (simp [*] <;> fail) | omega) | exact leaf_t (by first | (simp [*] <;> fail) | omega) | exact leaf_d (by first | (simp [*] <;> fail) | omega) | exact leaf_f (by (first | omega | ((try simp only [decide_eq_true_eq, decide_eq_false_iff_not, Bool.not_eq_true', Bool.not_eq_false'] at *); first | omega | (simp_all <;> fail) | (simp_all; omega)))) | exact leaf_t (by (first | omega | ((try simp only [decide_eq_true_eq, decide_eq_false_iff_not, Bool.not_eq_true', Bool.not_eq_false'] at *); first | omega | (simp_all <;> fail) | (simp_all; omega)))) | exact leaf_d (by (first | omega | ((try simp only [decide_eq_true_eq, decide_eq_false_iff_not, Bool.not_eq_true', Bool.not_eq_false'] at *); first | omega | (simp_all <;> fail) | (simp_all; omega)))))) <| Sub.nil _) rfl rfl
      ·
        try simp only [decide_eq_true_eq, decide_eq_false_iff_not, ne_eq, Decidable.not_not, Bool.not_eq_true', Bool.not_eq_false'] at g12
        refine E.on rfl rfl (E.mv rfl rfl ?_)
        refine E.on rfl rfl (E.lenv rfl (Rd.shape (by first | exact hM.sl 0 rfl | exact hM.sl 1 rfl | exact hM.sl 2 rfl | exact hM.sl 3 rfl | exact hM.arg0 (by assumption) | exact hM.arg (by assumption) (by assumption) | assumption)) Try.underlying22 rfl ?_)
        refine E.on rfl rfl (E.mv rfl rfl ?_)
        refine E.on rfl rfl (E.conv rfl Try.underlying58 Try.underlying3 (IntWalk.i64_in _ (by omega)) rfl ?_)
        refine E.on rfl rfl (E.add rfl rfl (by omega) rfl ?_)
        refine E.on rfl rfl (E.bin rfl rfl rfl rfl ?_)
        refine E.pick rfl rfl rfl <| E.nil <| X.join0 (Sub.cons (by (first | exact leaf_f (by omega) | exact leaf_t (by omega) | exact leaf_d (by omega) | exact leaf_f (by first | (simp [*] <;> fail) | omega) | exact leaf_t (by first | (simp [*] <;> fail) | omega) | exact leaf_d (by first | (simp [*] <;> fail) | omega) | exact leaf_f (by (first | omega | ((try simp only [decide_eq_true_eq, decide_eq_false_iff_not, Bool.not_eq_true', Bool.not_eq_false'] at *); first | omega | (simp_all <;> fail) | (simp_all; omega)))) | exact leaf_t (by (first | omega | ((try simp only [decide_eq_true_eq, decide_eq_false_iff_not, Bool.not_eq_true', Bool.not_eq_false'] at *); first | omega | (simp_all <;> fail) | (simp_all; omega)))) | exact leaf_d (by (first | omega | ((try simp only [decide_eq_true_eq, decide_eq_false_iff_not, Bool.not_eq_true', Bool.not_eq_false'] at *); first | omega | (simp_all <;> fail) | (simp_all; omega)))))) <| Sub.nil _) rfl rfl
    refine C.cond' rfl (fun hC1 => ?_) (fun hC1 => ?_)
    ·
      refine C.seq <| C.region <| E.asg rfl rfl <| E.nil <| X.next <| C.ret <| X.retT <| ret1 rfl rfl ?_
      exact ⟨by rw [Jn.first, if_neg (by omega), if_pos hC1]; rfl, hM.toExt⟩
    ·
      refine C.skip <| X.next <| C.seq <| C.region <| E.mv rfl rfl <| ?_
      refine E.conv rfl Try.underlying58 Try.underlying3 (IntWalk.i64_in _ (by omega)) rfl ?_
      refine E.addN (b := 8) rfl rfl (by first | omega | (simp only [List.length_replicate, List.length_append, List.length_set, List.length_cons, List.length_nil, List.length_map, List.length_range, List.length_take, List.length_drop, List.length_zipWith] at *; omega)) rfl ?_
      refine E.asg rfl rfl <| E.nil <| X.next <| C.seq <| C.seq <| C.drawn (by kernel_rfl) (by kernel_rfl) <| Q.mv rfl rfl <| Q.mv rfl rfl <| ?_
      refine Q.subN (b := 4) rfl rfl (by first | omega | (simp only [List.length_replicate, List.length_append, List.length_set, List.length_cons, List.length_nil, List.length_map, List.length_range, List.length_take, List.length_drop, List.length_zipWith] at *; omega)) rfl ?_
      refine Q.slcP (k := .i64) 0 (Jn.dec4 l + 8 - 4) rfl (.inr ⟨rfl, rfl⟩) (.inl rfl) (by first | exact hM.sl 0 rfl | exact hM.sl 1 rfl | exact hM.sl 2 rfl | exact hM.sl 3 rfl | exact hM.arg0 (by assumption) | exact hM.arg (by assumption) (by assumption) | assumption) Try.underlying22 (by kernel_rfl) (by omega) (by omega) rfl ?_
      have r26 := (hM.arg0 hl).partV (a := 0) (b := Jn.dec4 l + 8 - 4) (by omega) (by omega)
      rw [cut_take, show Jn.dec4 l + 8 - 4 = Jn.dec4 l + 4 by omega] at r26
      rw [show Jn.dec4 l + 8 - 4 = Jn.dec4 l + 4 by omega]
      refine Q.call (v := u32 (Crc.crc (l.take (Jn.dec4 l + 4)))) rfl rfl (fun w' hw' => CRC32_ret _ _ w' (r26.ext hw')) ?_
      refine Q.mv rfl rfl <| Q.mv rfl rfl <| ?_
      refine Q.subN (b := 4) rfl rfl (by first | omega | (simp only [List.length_replicate, List.length_append, List.length_set, List.length_cons, List.length_nil, List.length_map, List.length_range, List.length_take, List.length_drop, List.length_zipWith] at *; omega)) rfl ?_
      rw [show Jn.dec4 l + 8 - 4 = Jn.dec4 l + 4 by omega]
      refine Q.slcP (k' := .i64) (Jn.dec4 l + 4) _ rfl (.inl rfl) (.inr ⟨rfl, rfl⟩) (by first | exact hM.sl 0 rfl | exact hM.sl 1 rfl | exact hM.sl 2 rfl | exact hM.sl 3 rfl | exact hM.arg0 (by assumption) | exact hM.arg (by assumption) (by assumption) | assumption) Try.underlying22 (by kernel_rfl) (by omega) (by omega) rfl ?_
      have r31 := (hM.arg0 hl).partV (a := Jn.dec4 l + 4) (b := l.length) (by omega) (by omega)
      rw [cut_drop] at r31
      refine Q.call (v := .int .u32 (Jn.dec4 (l.drop (Jn.dec4 l + 4)) : Int)) rfl rfl (fun w' hw' => number_ret _ _ w' (r31.ext hw') (by rw [List.length_drop]; omega)) ?_
      refine Q.bin rfl rfl rfl rfl <| Q.nil <| fun w1 hx1 => ?_
      have hM := hM.ext hx1
      refine X.next <| ?_
      refine C.cond' rfl (fun hC2 => ?_) (fun hC2 => ?_)
      ·
        have hne : ¬ Jn.crcN (l.take (Jn.dec4 l + 4)) = Jn.dec4 (l.drop (Jn.dec4 l + 4)) := fun h => hC2 (congrArg Int.ofNat h)
        refine C.seq <| C.region <| E.asg rfl rfl <| E.nil <| X.next <| C.ret <| X.retT <| ret1 rfl rfl ?_
        exact ⟨by rw [Jn.first, if_neg (by omega), if_neg hC1, if_neg hne]; rfl, hM.toExt⟩
      ·
        have heq : Jn.crcN (l.take (Jn.dec4 l + 4)) = Jn.dec4 (l.drop (Jn.dec4 l + 4)) := Int.ofNat.inj (Decidable.byContradiction hC2)
        refine C.skip <| X.next <| C.seq <| C.region <| E.mv rfl rfl <| E.asg rfl rfl <| E.nil <| X.next <| C.ret <| ret1 rfl rfl ?_
        exact ⟨by rw [Jn.first, if_neg (by omega), if_neg hC1, if_pos heq], hM.toExt⟩

set_option maxHeartbeats 1000000 in
theorem Recover_ret (p : Value) (l : List UInt8) (w : World) (hl : RdL u8 w p l) :
    Ret Try.prog 17 #[p] w fun v w' => RcvAns l v w w' := by
  have hM := M.start w
  refine enter Try.func17 rfl (by kernel_rfl) Try.ntmps17 rfl ?_
  refine C.seq <| C.region <| E.asg rfl rfl <| E.asg rfl rfl <| E.nil <| X.next <| C.seq <| C.region <| E.asg rfl rfl <| E.nil <| X.next <| C.seq <| C.region <| E.asg rfl rfl <| E.nil <| X.next <| ?_

  refine C.cut3 [] rfl (fun (v4 : Value) (hs : (List Hd)) (done : LL) => [(4, v4), (5, i64 (Jn.siz (Jn.recs 65536 l) : Int))]) (fun (v4 : Value) (hs : (List Hd)) (done : LL) w' => M w (Nn) w' [Rg.sl slv 22 v4 hs, Rg.bag hs done] ∧ Jn.recs 65536 l = done) ?_ ?_
  ·
    refine C.block <| ?_
    have hM := (hM.nil slv 22).bagNil
    try dsimp only [List.nil_append, List.cons_append, List.set_cons_zero, List.set_cons_succ, repl] at hM

    refine C.loop4 [(0, _)] rfl (fun (v4 : Value) (hs : (List Hd)) (done : LL) (a : Nat) => [(4, v4), (5, i64 a)]) (fun (v4 : Value) (hs : (List Hd)) (done : LL) (a : Nat) w' => M w (Nn) w' [Rg.sl slv 22 v4 hs, Rg.bag hs done] ∧ Rv l done a) (fun (v4 : Value) (hs : (List Hd)) (done : LL) (a : Nat) => 65536 - done.length) nilS [] [] 0 ?_ ?_ ?_
    · exact Sub.cons rfl <| Sub.cons rfl <| Sub.nil _
    · exact ⟨hM, Rv.start l⟩
    rintro v4 hs done a w0 ⟨hM, hI⟩
    have hll := Rd.le hl
    have hbl := (hM.bag 1 rfl).1
    obtain ⟨hI1, hI2, hI3, hI4⟩ := id hI
    refine C.seq <| C.seq <| C.region <| E.mv rfl rfl <| ?_
    refine E.lenv rfl (Rd.shape (by first | exact hM.sl 0 rfl | exact hM.sl 1 rfl | exact hM.sl 2 rfl | exact hM.sl 3 rfl | exact hM.arg0 (by assumption) | exact hM.arg (by assumption) (by assumption) | assumption)) Try.underlying27 rfl ?_
    refine E.bin rfl rfl rfl rfl <| E.nil <| X.next <| ?_
    refine C.cond' rfl (fun hC0 => ?_) (fun hC0 => ?_)
    ·
      refine C.skip <| X.next <| C.block <| C.seq <| C.region <| E.mv rfl rfl <| E.mv rfl rfl <| ?_
      refine E.slcP (k' := .i64) _ _ rfl (.inl rfl) (.inr ⟨rfl, rfl⟩) (by first | exact hM.sl 0 rfl | exact hM.sl 1 rfl | exact hM.sl 2 rfl | exact hM.sl 3 rfl | exact hM.arg0 (by assumption) | exact hM.arg (by assumption) (by assumption) | assumption) Try.underlying22 (by kernel_rfl) (by first | omega | (simp only [List.length_replicate, List.length_append, List.length_set, List.length_cons, List.length_nil, List.length_map, List.length_range, List.length_take, List.length_drop, List.length_zipWith] at *; omega)) (by first | omega | (simp only [List.length_replicate, List.length_append, List.length_set, List.length_cons, List.length_nil, List.length_map, List.length_range, List.length_take, List.length_drop, List.length_zipWith] at *; omega)) rfl ?_
      have r12 := (hM.arg0 hl).partV (a := a) (b := l.length) (by omega) (by omega)
      rw [cut_drop] at r12
      refine E.call rfl rfl (first_ret _ _ _ r12) ?_
      rintro _ w1 ⟨rfl, x1⟩
      have hM := hM.ext x1
      have hfl := Jn.first_le (l.drop a)
      rw [List.length_drop] at hfl
      try dsimp only [List.nil_append, List.cons_append, List.set_cons_zero, List.set_cons_succ, repl] at hM
      refine E.asg rfl rfl <| E.nil <| X.next <| C.seq <| C.seq <| C.region <| E.mv rfl rfl <| E.bin rfl rfl rfl rfl <| E.nil <| X.next <| ?_
      refine C.cond' rfl (fun hC1 => ?_) (fun hC1 => ?_)
      ·

        refine C.exit <| X.exitT <| X.outNe rfl <| X.exitT <| X.outE <| X.join3 v4 hs done (Sub.cons rfl <| Sub.cons (look_val rfl (by rw [hI.stop (.inl (by omega)), ← hI2])) <| Sub.nil _) rfl ⟨hM, hI.stop (.inl (by omega))⟩
      ·
        have hf0 : Jn.first (l.drop a) ≠ 0 := fun h => hC1 (by rw [h]; rfl)
        obtain ⟨hf8, hfd, hfm⟩ := Jn.first_ge hf0
        refine C.skip <| X.next <| C.seq <| C.region <| E.mv rfl rfl <| E.mv rfl rfl <| E.mv rfl rfl <| ?_
        refine E.addN (b := 4) rfl rfl (by first | omega | (simp only [List.length_replicate, List.length_append, List.length_set, List.length_cons, List.length_nil, List.length_map, List.length_range, List.length_take, List.length_drop, List.length_zipWith] at *; omega)) rfl ?_
        refine E.mv rfl rfl <| E.mv rfl rfl <| ?_
        refine E.addN rfl rfl (by first | omega | (simp only [List.length_replicate, List.length_append, List.length_set, List.length_cons, List.length_nil, List.length_map, List.length_range, List.length_take, List.length_drop, List.length_zipWith] at *; omega)) rfl ?_
        refine E.subN (b := 4) rfl rfl (by first | omega | (simp only [List.length_replicate, List.length_append, List.length_set, List.length_cons, List.length_nil, List.length_map, List.length_range, List.length_take, List.length_drop, List.length_zipWith] at *; omega)) rfl ?_
        refine E.slcP _ _ rfl (.inl rfl) (.inl rfl) (by first | exact hM.sl 0 rfl | exact hM.sl 1 rfl | exact hM.sl 2 rfl | exact hM.sl 3 rfl | exact hM.arg0 (by assumption) | exact hM.arg (by assumption) (by assumption) | assumption) Try.underlying22 (by kernel_rfl) (by first | omega | (simp only [List.length_replicate, List.length_append, List.length_set, List.length_cons, List.length_nil, List.length_map, List.length_range, List.length_take, List.length_drop, List.length_zipWith] at *; omega)) (by first | omega | (simp only [List.length_replicate, List.length_append, List.length_set, List.length_cons, List.length_nil, List.length_map, List.length_range, List.length_take, List.length_drop, List.length_zipWith] at *; omega)) rfl ?_
        have hM := hM.nil u8 5
        try dsimp only [List.nil_append, List.cons_append, List.set_cons_zero, List.set_cons_succ, repl] at hM
        have hcl : (cutL (a + 4) (a + Jn.first (l.drop a) - 4) l).length ≤ 4194304 := by rw [cutL, List.length_take, List.length_drop]; omega
        refine E.appendM 2 hM rfl rfl rfl Try.underlying22 elem_Tuint8 ((hM.arg0 hl).partV (by omega) (by omega)) (fun _ => rfl) (by simp only [List.length_nil]; omega) (by simp only [List.length_nil]; omega) rfl ?_
        intro v25 w2 hM
        try dsimp only [List.nil_append, List.cons_append, List.set_cons_zero, List.set_cons_succ, repl] at hM
        obtain ⟨x25, rfl⟩ := own_head (hM.own 2 rfl)
        refine E.pushM 0 x25 hM rfl rfl rfl Try.underlying27 elem_Tsl_uint8 rfl (by omega) (by omega) (by simp) rfl rfl ?_
        intro v27 u27 w3 hM
        try dsimp only [List.nil_append, List.cons_append, List.set_cons_zero, List.set_cons_succ, repl] at hM
        have hM := hM.bagPush 1 2 (by decide) rfl rfl
        try dsimp only [List.nil_append, List.cons_append, List.set_cons_zero, List.set_cons_succ, repl] at hM
        refine E.asg rfl rfl <| E.nil <| X.next <| C.region <| E.mv rfl rfl <| E.mv rfl rfl <| ?_
        refine E.addN rfl rfl (by first | omega | (simp only [List.length_replicate, List.length_append, List.length_set, List.length_cons, List.length_nil, List.length_map, List.length_range, List.length_take, List.length_drop, List.length_zipWith] at *; omega)) rfl ?_

        refine E.asg rfl rfl <| E.nil <| X.outN <| X.again4 _ _ _ (a + Jn.first (l.drop a)) (Sub.cons rfl <| Sub.cons rfl <| Sub.nil _) rfl ⟨hM.pick [0, 1] (by decide), hI.step hf0 (by omega) rfl⟩ (by rw [List.length_append, List.length_singleton]; omega)
    ·

      refine C.exit <| X.exitT <| X.exitT <| X.outE <| X.join3 v4 hs done (Sub.cons rfl <| Sub.cons (look_val rfl (by rw [hI.stop (.inr (by omega)), ← hI2])) <| Sub.nil _) rfl ⟨hM, hI.stop (.inr (by omega))⟩
  rintro v4 hs done w4 ⟨hM, hD⟩
  refine C.seq <| C.region <| E.mv rfl rfl <| E.mv rfl rfl <| E.asg rfl rfl <| E.asg rfl rfl <| E.nil <| X.next <| C.ret <| ret2 rfl rfl rfl ?_
  exact ⟨_, _, rfl, by rw [hD]; exact hM⟩

set_option maxHeartbeats 1000000 in
theorem copies_ret (p : Value) (hs0 : List Hd) (ls : List (List UInt8)) (w : World) (hl : RdL slv w p hs0) (hb : Bag w hs0 ls) (hn : ls.length ≤ 1000000) (hs1 : ∀ q ∈ ls, q.length ≤ 100000000) :
    Ret Try.prog 55 #[p] w fun v w' => ∃ hs, M w Nn w' [Rg.sl slv 22 v hs, Rg.bag hs ls] := by
  have hM := M.start w
  refine enter Try.func55 rfl (by kernel_rfl) Try.ntmps55 rfl ?_
  refine C.seq <| C.region <| E.asg rfl rfl <| E.nil <| X.next <| C.seq <| C.region <| E.asg rfl rfl <| E.nil <| X.next <| C.seq <| C.seq <| C.region <| E.mv rfl rfl <| ?_
  refine E.lenv rfl (Rd.shape (by first | exact hM.sl 0 rfl | exact hM.sl 1 rfl | exact hM.sl 2 rfl | exact hM.sl 3 rfl | exact hM.arg0 (by assumption) | exact hM.arg (by assumption) (by assumption) | assumption)) Try.underlying27 rfl ?_
  refine E.mv rfl rfl <| E.nil <| X.next <| C.block <| ?_
  have hM := (hM.nil slv 22).bagNil
  try dsimp only [List.nil_append, List.cons_append, List.set_cons_zero, List.set_cons_succ, repl] at hM

  refine C.loop3 [(6, _), (7, _)] rfl (fun (v3 : Value) (hs : (List Hd)) (i : Nat) => [(3, v3), (8, i64 i)]) (fun (v3 : Value) (hs : (List Hd)) (i : Nat) w' => M w (Nn) w' [Rg.sl slv 22 v3 hs, Rg.bag hs (ls.take i)] ∧ i ≤ ls.length) (fun (v3 : Value) (hs : (List Hd)) (i : Nat) => ls.length - i) nilS [] 0 ?_ ?_ ?_
  · exact Sub.cons rfl <| Sub.cons rfl <| Sub.nil _
  · exact ⟨hM, Nat.zero_le _⟩
  rintro v3 hs i w0 ⟨hM, hi⟩
  have hbl := (hM.bag 1 rfl).1
  rw [List.length_take] at hbl
  have hb1 := hb.1
  refine C.seq <| C.region <| E.bin rfl rfl rfl rfl <| E.nil <| X.next <| C.seq <| ?_
  refine C.cond' rfl (fun hC0 => ?_) (fun hC0 => ?_)
  ·
    have hi' : i < ls.length := by omega
    have hsm := hs1 ls[i] (List.getElem_mem hi')
    refine C.skip <| X.next <| C.seq <| C.block <| C.seq <| C.region <| ?_
    refine E.get (k := _) rfl rfl (by first | exact hM.sl 0 rfl | exact hM.sl 1 rfl | exact hM.sl 2 rfl | exact hM.sl 3 rfl | exact hM.arg0 (by assumption) | exact hM.arg (by assumption) (by assumption) | assumption) rfl (by first | omega | (simp only [List.length_replicate, List.length_append, List.length_set, List.length_cons, List.length_nil, List.length_map, List.length_range, List.length_take, List.length_drop, List.length_zipWith] at *; omega)) Try.underlying27 (by kernel_rfl) Try.underlying22 rfl rfl rfl ?_
    refine E.asg rfl rfl <| E.nil <| X.next <| C.region <| E.mv rfl rfl <| E.mv rfl rfl <| ?_
    have hM := hM.nil u8 5
    try dsimp only [List.nil_append, List.cons_append, List.set_cons_zero, List.set_cons_succ, repl] at hM
    refine E.appendM 2 hM rfl rfl rfl Try.underlying22 elem_Tuint8 ((hb.at hi').ext hM.toExt) (fun _ => rfl) (by simp only [List.length_nil]; omega) (by simp only [List.length_nil]; omega) rfl ?_
    intro v14 w1 hM
    try dsimp only [List.nil_append, List.cons_append, List.set_cons_zero, List.set_cons_succ, repl] at hM
    obtain ⟨x14, rfl⟩ := own_head (hM.own 2 rfl)
    refine E.pushM 0 x14 hM rfl rfl rfl Try.underlying27 elem_Tsl_uint8 rfl (by omega) (by omega) (by simp) rfl rfl ?_
    intro v16 u16 w2 hM
    try dsimp only [List.nil_append, List.cons_append, List.set_cons_zero, List.set_cons_succ, repl] at hM
    have hM := hM.bagPush 1 2 (by decide) rfl rfl
    try dsimp only [List.nil_append, List.cons_append, List.set_cons_zero, List.set_cons_succ, repl] at hM
    refine E.asg rfl rfl <| E.nil <| X.outN <| X.next <| C.region <| ?_
    refine E.add rfl rfl (by omega) rfl ?_

    refine E.mv rfl rfl <| E.nil <| X.again3 _ _ (i + 1) (Sub.cons rfl <| Sub.cons rfl <| Sub.nil _) rfl ⟨by rw [← List.take_append_getElem hi']; exact hM.pick [0, 1] (by decide), by omega⟩ (by omega)
  ·
    obtain rfl : i = ls.length := by omega
    rw [List.take_length] at hM
    refine C.exit <| X.exitT <| X.exitT <| X.outE <| X.next <| C.seq <| C.region <| E.mv rfl rfl <| E.asg rfl rfl <| E.nil <| X.next <| C.ret <| ret1 rfl rfl ?_
    exact ⟨_, hM⟩

theorem Same_ret (p q : Value) (hs hs' : List Hd) (ls ls' : List (List UInt8)) (w : World) (hl : RdL slv w p hs) (hb : Bag w hs ls) (hl' : RdL slv w q hs') (hb' : Bag w hs' ls') :
    Ret Try.prog 19 #[p, q] w fun v w' => v = .bool (decide (ls = ls')) ∧ Ext w w' := by
  have hM := M.start w
  refine enter Try.func19 rfl (by kernel_rfl) Try.ntmps19 rfl ?_
  refine C.seq <| C.region <| E.asg rfl rfl <| E.nil <| X.next <| C.seq <| C.seq <| C.region <| E.mv rfl rfl <| ?_
  refine E.lenv rfl (Rd.shape (by first | exact hM.sl 0 rfl | exact hM.sl 1 rfl | exact hM.sl 2 rfl | exact hM.sl 3 rfl | exact hM.arg0 (by assumption) | exact hM.arg (by assumption) (by assumption) | assumption)) Try.underlying27 rfl ?_
  refine E.mv rfl rfl <| ?_
  refine E.lenv rfl (Rd.shape (by first | exact hM.sl 0 rfl | exact hM.sl 1 rfl | exact hM.sl 2 rfl | exact hM.sl 3 rfl | exact hM.arg0 (by assumption) | exact hM.arg (by assumption) (by assumption) | assumption)) Try.underlying27 rfl ?_
  refine E.bin rfl rfl rfl rfl <| E.nil <| X.next <| ?_
  refine C.cond' rfl (fun hC0 => ?_) (fun hC0 => ?_)
  ·
    have hne : ls ≠ ls' := fun h => hC0 (by have h1 := hb.1; have h2 := hb'.1; rw [h] at h1; omega)
    refine C.seq <| C.region <| E.asg rfl rfl <| E.nil <| X.next <| C.ret <| X.retT <| ret1 rfl rfl ?_
    exact ⟨by rw [decide_eq_false hne], hM.toExt⟩
  ·
    have hb1 := hb.1
    have hb2 := hb'.1
    have hll : ls.length = ls'.length := by omega
    have hle := Rd.le hl
    refine C.skip <| X.next <| C.seq <| C.seq <| C.region <| E.asg rfl rfl <| E.nil <| X.next <| C.block <| ?_

    refine C.loop1 [(0, _), (1, _)] rfl (fun (i : Nat) => [(5, i64 i)]) (fun (i : Nat) w' => M w (Nn) w' [] ∧ i ≤ ls.length ∧ ls.take i = ls'.take i) (fun (i : Nat) => ls.length - i) 0 ?_ ?_ ?_
    · exact Sub.cons rfl <| Sub.nil _
    · exact ⟨hM, Nat.zero_le _, rfl⟩
    rintro i w0 ⟨hM, hi, he⟩
    refine C.seq <| C.seq <| C.region <| E.mv rfl rfl <| E.mv rfl rfl <| ?_
    refine E.lenv rfl (Rd.shape (by first | exact hM.sl 0 rfl | exact hM.sl 1 rfl | exact hM.sl 2 rfl | exact hM.sl 3 rfl | exact hM.arg0 (by assumption) | exact hM.arg (by assumption) (by assumption) | assumption)) Try.underlying27 rfl ?_
    refine E.bin rfl rfl rfl rfl <| E.nil <| X.next <| ?_
    refine C.cond' rfl (fun hC1 => ?_) (fun hC1 => ?_)
    ·
      have hi' : i < ls.length := by omega
      refine C.skip <| X.next <| C.seq <| C.block <| C.seq <| C.drawn (by kernel_rfl) (by kernel_rfl) <| Q.mv rfl rfl <| Q.mv rfl rfl <| ?_
      refine Q.idx1 (k := _) rfl rfl (by first | exact hM.sl 0 rfl | exact hM.sl 1 rfl | exact hM.sl 2 rfl | exact hM.sl 3 rfl | exact hM.arg0 (by assumption) | exact hM.arg (by assumption) (by assumption) | assumption) rfl (by first | omega | (simp only [List.length_replicate, List.length_append, List.length_set, List.length_cons, List.length_nil, List.length_map, List.length_range, List.length_take, List.length_drop, List.length_zipWith] at *; omega)) Try.underlying27 (by kernel_rfl) rfl ?_
      refine Q.load rfl Try.underlying22 rfl (by first | exact (hM.sl 0 rfl).cellA rfl (by first | omega | (simp only [List.length_replicate, List.length_append, List.length_set, List.length_cons, List.length_nil, List.length_map, List.length_range, List.length_take, List.length_drop, List.length_zipWith] at *; omega)) | exact (hM.sl 1 rfl).cellA rfl (by first | omega | (simp only [List.length_replicate, List.length_append, List.length_set, List.length_cons, List.length_nil, List.length_map, List.length_range, List.length_take, List.length_drop, List.length_zipWith] at *; omega)) | exact (hM.sl 2 rfl).cellA rfl (by first | omega | (simp only [List.length_replicate, List.length_append, List.length_set, List.length_cons, List.length_nil, List.length_map, List.length_range, List.length_take, List.length_drop, List.length_zipWith] at *; omega)) | exact (hM.sl 3 rfl).cellA rfl (by first | omega | (simp only [List.length_replicate, List.length_append, List.length_set, List.length_cons, List.length_nil, List.length_map, List.length_range, List.length_take, List.length_drop, List.length_zipWith] at *; omega)) | exact (hM.arg0 (by assumption)).cellA rfl (by first | omega | (simp only [List.length_replicate, List.length_append, List.length_set, List.length_cons, List.length_nil, List.length_map, List.length_range, List.length_take, List.length_drop, List.length_zipWith] at *; omega)) | exact (hM.arg (by assumption) (by assumption)).cellA rfl (by first | omega | (simp only [List.length_replicate, List.length_append, List.length_set, List.length_cons, List.length_nil, List.length_map, List.length_range, List.length_take, List.length_drop, List.length_zipWith] at *; omega))) rfl ?_
      refine Q.bstr rfl ((hb.at hi').ext hM.toExt) Try.underlying22 Try.underlying5 Try.underlying9 rfl ?_
      refine Q.mv rfl rfl <| Q.mv rfl rfl <| ?_
      refine Q.idx1 (k := _) rfl rfl (by first | exact hM.sl 0 rfl | exact hM.sl 1 rfl | exact hM.sl 2 rfl | exact hM.sl 3 rfl | exact hM.arg0 (by assumption) | exact hM.arg (by assumption) (by assumption) | assumption) rfl (by first | omega | (simp only [List.length_replicate, List.length_append, List.length_set, List.length_cons, List.length_nil, List.length_map, List.length_range, List.length_take, List.length_drop, List.length_zipWith] at *; omega)) Try.underlying27 (by kernel_rfl) rfl ?_
      refine Q.load rfl Try.underlying22 rfl (by first | exact (hM.sl 0 rfl).cellA rfl (by first | omega | (simp only [List.length_replicate, List.length_append, List.length_set, List.length_cons, List.length_nil, List.length_map, List.length_range, List.length_take, List.length_drop, List.length_zipWith] at *; omega)) | exact (hM.sl 1 rfl).cellA rfl (by first | omega | (simp only [List.length_replicate, List.length_append, List.length_set, List.length_cons, List.length_nil, List.length_map, List.length_range, List.length_take, List.length_drop, List.length_zipWith] at *; omega)) | exact (hM.sl 2 rfl).cellA rfl (by first | omega | (simp only [List.length_replicate, List.length_append, List.length_set, List.length_cons, List.length_nil, List.length_map, List.length_range, List.length_take, List.length_drop, List.length_zipWith] at *; omega)) | exact (hM.sl 3 rfl).cellA rfl (by first | omega | (simp only [List.length_replicate, List.length_append, List.length_set, List.length_cons, List.length_nil, List.length_map, List.length_range, List.length_take, List.length_drop, List.length_zipWith] at *; omega)) | exact (hM.arg0 (by assumption)).cellA rfl (by first | omega | (simp only [List.length_replicate, List.length_append, List.length_set, List.length_cons, List.length_nil, List.length_map, List.length_range, List.length_take, List.length_drop, List.length_zipWith] at *; omega)) | exact (hM.arg (by assumption) (by assumption)).cellA rfl (by first | omega | (simp only [List.length_replicate, List.length_append, List.length_set, List.length_cons, List.length_nil, List.length_map, List.length_range, List.length_take, List.length_drop, List.length_zipWith] at *; omega))) rfl ?_
      refine Q.bstr rfl ((hb'.at (i := i) (by omega)).ext hM.toExt) Try.underlying22 Try.underlying5 Try.underlying9 rfl ?_
      refine Q.nestr rfl rfl rfl ?_
      refine Q.nil <| fun w1 hx1 => ?_
      have hM := hM.ext hx1
      refine X.next <| ?_
      refine C.cond' rfl (fun hC2 => ?_) (fun hC2 => ?_)
      ·
        have hne : ls ≠ ls' := fun h => hC2 (by subst h; rfl)
        refine C.seq <| C.region <| E.asg rfl rfl <| E.nil <| X.next <| C.ret <| X.retB <| X.retT <| X.retT <| X.retB <| X.retT <| ret1 rfl rfl ?_
        exact ⟨by rw [decide_eq_false hne], hM.toExt⟩
      ·
        have heq : ls[i] = ls'[i] := Decidable.byContradiction hC2
        refine C.skip <| X.outN <| X.next <| C.region <| E.mv rfl rfl <| ?_
        refine E.add rfl rfl (by omega) rfl ?_

        refine E.asg rfl rfl <| E.nil <| X.again1 (i + 1) (Sub.cons rfl <| Sub.nil _) rfl ⟨hM, by omega, by rw [← List.take_append_getElem hi', ← List.take_append_getElem (show i < ls'.length by omega), he, heq]⟩ (by omega)
    ·
      have hls : ls = ls' := by
        rw [List.take_of_length_le (by omega), List.take_of_length_le (by omega)] at he; exact he
      refine C.exit <| X.exitT <| X.exitT <| X.outE <| X.next <| C.seq <| C.region <| E.asg rfl rfl <| E.nil <| X.next <| C.ret <| ret1 rfl rfl ?_
      exact ⟨by rw [decide_eq_true hls], hM.toExt⟩

end Go.Proofs.Ytdcgmkoonanpgaa
