/- law 53: Survives. -/
import Derived.Test.YtdcgmkoonanpgaaJn8
namespace Go.Proofs.Ytdcgmkoonanpgaa
set_option linter.unusedSimpArgs false
set_option linter.unusedVariables false
open Go.RowKit Sym Go.Conc.Locks

theorem encs_pre {ls : LL} {at_ : Nat} (other : List UInt8) : ∃ r, (Jn.encs ls).take at_ ++ other = Jn.encs (ls.take (Jn.fit at_ ls)) ++ r := by
  have hk := Jn.fit_le ls at_
  have h1 := (Jn.fit_iff ls at_ _ hk).1 (Nat.le_refl _)
  have h2 : Jn.encs ls = Jn.encs (ls.take (Jn.fit at_ ls)) ++ Jn.encs (ls.drop (Jn.fit at_ ls)) := by rw [← Jn.encs_app, List.take_append_drop]
  refine ⟨(Jn.encs (ls.drop (Jn.fit at_ ls))).take (at_ - Jn.siz (ls.take (Jn.fit at_ ls))) ++ other, ?_⟩
  conv => lhs; rw [h2]
  rw [List.take_append, Jn.encs_len, List.take_of_length_le (by rw [Jn.encs_len]; exact h1), List.append_assoc]
theorem survive {ls : LL} {at_ : Nat} {other : List UInt8} (hok : Jok ls) {i : Nat} (hi : i < ls.length) (he : Jn.siz (ls.take (i + 1)) ≤ at_) : (Jn.recs 65536 ((Jn.encs ls).take at_ ++ other))[i]? = some ls[i] := by
  obtain ⟨r, hr⟩ := encs_pre (ls := ls) (at_ := at_) other
  have hk := Jn.fit_le ls at_
  have hik := (Jn.fit_iff ls at_ (i + 1) hi).2 he
  have hl : (ls.take (Jn.fit at_ ls)).length = Jn.fit at_ ls := by rw [List.length_take]; omega
  rw [hr, Jn.recs_app _ _ _ (fun p hp => hok.2.2 p (List.mem_of_mem_take hp)) (by rw [hl]; have := hok.1; omega), List.getElem?_append_left (by omega), List.getElem?_take, if_pos (by omega), List.getElem?_eq_getElem hi]
set_option maxHeartbeats 4000000 in
theorem JournalSurvives_ret (q : Value) (hs0 : List Hd) (ls : LL) (ati : Int) (vo : Value) (other : List UInt8) (w : World) (hr : RdL slv w q hs0) (hb : Bag w hs0 ls) (ho : RdL u8 w vo other) :
    Ret Try.prog 5 #[q, i64 ati, vo] w fun v w' => v = .bool true ∧ Ext w w' := by
  have hM := M.start w
  refine enter Try.func5 rfl (by kernel_rfl) Try.ntmps5 rfl ?_
  refine C.seq <| C.region <| E.asg rfl rfl <| E.nil <| X.next <| C.seq <| ?_

  refine C.cut0 [(0, _), (1, _), (2, _)] rfl [(31, .bool (decide (40 < ls.length ∨ 3000 < Jn.siz ls ∨ 500 < other.length)))] (fun w' => M w (Nn) w' []) ?_ ?_
  ·
    have hbl := hb.1
    refine C.region <| E.mv rfl rfl <| ?_
    refine E.lenv rfl (Rd.shape (hM.arg0 hr)) Try.underlying27 rfl ?_
    refine E.bin rfl rfl rfl rfl <| E.mv rfl rfl <| ?_
    refine E.split 22 rfl (fun g22 => ?_) (fun g22 => ?_)
    ·
      try simp only [decide_eq_true_eq, decide_eq_false_iff_not, ne_eq, Decidable.not_not, Bool.not_eq_true', Bool.not_eq_false'] at g22

      refine E.off rfl rfl rfl rfl <| E.off rfl rfl rfl rfl <| E.off rfl rfl rfl rfl <| E.pick rfl rfl rfl <| E.mv rfl rfl <| E.off rfl rfl rfl rfl <| E.off rfl rfl rfl rfl <| E.off rfl rfl rfl rfl <| E.pick rfl rfl rfl <| E.nil <| X.join0  (Sub.cons (by (first | exact leaf_f (by omega) | exact leaf_t (by omega) | exact leaf_d (by omega) | exact leaf_f (by first | (simp [*] <;> fail) | omega) | exact leaf_t (by first | (simp [*] <;> fail) | omega) | exact leaf_d (by first | (simp [*] <;> fail) | omega) | exact leaf_f (by (first | omega | ((try simp only [decide_eq_true_eq, decide_eq_false_iff_not, Bool.not_eq_true', Bool.not_eq_false'] at *); first | omega | (simp_all <;> fail) | (simp_all; omega)))) | exact leaf_t (by (first | omega | ((try simp only [decide_eq_true_eq, decide_eq_false_iff_not, Bool.not_eq_true', Bool.not_eq_false'] at *); first | omega | (simp_all <;> fail) | (simp_all; omega)))) | exact leaf_d (by (first | omega | ((try simp only [decide_eq_true_eq, decide_eq_false_iff_not, Bool.not_eq_true', Bool.not_eq_false'] at *); first | omega | (simp_all <;> fail) | (simp_all; omega)))))) <| Sub.nil _) rfl hM
    ·
      try simp only [decide_eq_true_eq, decide_eq_false_iff_not, ne_eq, Decidable.not_not, Bool.not_eq_true', Bool.not_eq_false'] at g22
      refine E.on rfl rfl (E.mv rfl rfl ?_)
      refine E.on rfl rfl (E.call rfl rfl (size_ret q hs0 ls _ (hM.arg0 hr) (hb.ext hM.toExt)) ?_)
      rintro _ w1 ⟨rfl, x1⟩
      have hM := hM.ext x1
      try dsimp only [List.nil_append, List.cons_append, List.set_cons_zero, List.set_cons_succ, repl] at hM
      refine E.on rfl rfl (E.bin rfl rfl rfl rfl ?_)
      refine E.pick rfl rfl rfl <| E.mv rfl rfl <| ?_
      refine E.split 27 rfl (fun g27 => ?_) (fun g27 => ?_)
      ·
        try simp only [decide_eq_true_eq, decide_eq_false_iff_not, ne_eq, Decidable.not_not, Bool.not_eq_true', Bool.not_eq_false'] at g27

        refine E.off rfl rfl rfl rfl <| E.off rfl rfl rfl rfl <| E.off rfl rfl rfl rfl <| E.pick rfl rfl rfl <| E.nil <| X.join0  (Sub.cons (by (first | exact leaf_f (by omega) | exact leaf_t (by omega) | exact leaf_d (by omega) | exact leaf_f (by first | (simp [*] <;> fail) | omega) | exact leaf_t (by first | (simp [*] <;> fail) | omega) | exact leaf_d (by first | (simp [*] <;> fail) | omega) | exact leaf_f (by (first | omega | ((try simp only [decide_eq_true_eq, decide_eq_false_iff_not, Bool.not_eq_true', Bool.not_eq_false'] at *); first | omega | (simp_all <;> fail) | (simp_all; omega)))) | exact leaf_t (by (first | omega | ((try simp only [decide_eq_true_eq, decide_eq_false_iff_not, Bool.not_eq_true', Bool.not_eq_false'] at *); first | omega | (simp_all <;> fail) | (simp_all; omega)))) | exact leaf_d (by (first | omega | ((try simp only [decide_eq_true_eq, decide_eq_false_iff_not, Bool.not_eq_true', Bool.not_eq_false'] at *); first | omega | (simp_all <;> fail) | (simp_all; omega)))))) <| Sub.nil _) rfl hM
      ·
        try simp only [decide_eq_true_eq, decide_eq_false_iff_not, ne_eq, Decidable.not_not, Bool.not_eq_true', Bool.not_eq_false'] at g27
        refine E.on rfl rfl (E.mv rfl rfl ?_)
        refine E.on rfl rfl (E.lenv rfl (Rd.shape (hM.arg0 ho)) Try.underlying22 rfl ?_)
        refine E.on rfl rfl (E.bin rfl rfl rfl rfl ?_)

        refine E.pick rfl rfl rfl <| E.nil <| X.join0  (Sub.cons (by (first | exact leaf_f (by omega) | exact leaf_t (by omega) | exact leaf_d (by omega) | exact leaf_f (by first | (simp [*] <;> fail) | omega) | exact leaf_t (by first | (simp [*] <;> fail) | omega) | exact leaf_d (by first | (simp [*] <;> fail) | omega) | exact leaf_f (by (first | omega | ((try simp only [decide_eq_true_eq, decide_eq_false_iff_not, Bool.not_eq_true', Bool.not_eq_false'] at *); first | omega | (simp_all <;> fail) | (simp_all; omega)))) | exact leaf_t (by (first | omega | ((try simp only [decide_eq_true_eq, decide_eq_false_iff_not, Bool.not_eq_true', Bool.not_eq_false'] at *); first | omega | (simp_all <;> fail) | (simp_all; omega)))) | exact leaf_d (by (first | omega | ((try simp only [decide_eq_true_eq, decide_eq_false_iff_not, Bool.not_eq_true', Bool.not_eq_false'] at *); first | omega | (simp_all <;> fail) | (simp_all; omega)))))) <| Sub.nil _) rfl hM
  rintro  w1 hM
  refine C.cond' rfl (fun hC0 => ?_) (fun hC0 => ?_)
  ·
    refine C.seq <| C.region <| ?_
    refine E.call rfl rfl (alive_ret _) ?_
    rintro _ wz ⟨rfl, xz⟩
    have hM := hM.ext xz
    try dsimp only [List.nil_append, List.cons_append, List.set_cons_zero, List.set_cons_succ, repl] at hM
    refine E.asg rfl rfl <| E.nil <| X.next <| C.ret <| X.retT <| ret1 rfl rfl ?_
    exact ⟨rfl, hM.toExt⟩
  ·
    have hbl := hb.1
    have hs1 : ls.length ≤ 40 := by omega
    have hs2 : Jn.siz ls ≤ 3000 := by omega
    have hs3 : other.length ≤ 500 := by omega
    have hok := small_ok hs1 hs2
    have hel := Jn.encs_len ls
    refine C.skip <| X.next <| C.seq <| C.region <| E.mv rfl rfl <| ?_
    refine E.call rfl rfl (written_ret q hs0 ls _ (hM.arg0 hr) (hb.ext hM.toExt) hs1 hs2) ?_
    rintro _ w2 ⟨b, vr, hs, rfl, m⟩
    have hM := hM.call m
    try dsimp only [List.nil_append, List.cons_append, List.set_cons_zero, List.set_cons_succ, repl] at hM
    refine E.mv rfl rfl <| E.ext rfl rfl rfl <| E.ext rfl rfl rfl <| E.asg rfl rfl <| E.asg rfl rfl <| E.nil <| X.next <| C.seq <| C.seq <| C.region <| E.mv rfl rfl <| E.not rfl rfl <| E.nil <| X.next <| ?_
    refine C.cond rfl (fun hC1 => ?_) (fun hC1 => ?_)
    ·
      cases hC1
    ·
      refine C.skip <| X.next <| C.seq <| C.region <| E.mv rfl rfl <| ?_
      refine E.call rfl rfl (BytesE_ret b vr hs ls _ hM.sep hok) ?_
      rintro v41 w3 m
      have hM := hM.call m
      try dsimp only [List.nil_append, List.cons_append, List.set_cons_zero, List.set_cons_succ, repl] at hM
      refine E.asg rfl rfl <| E.nil <| X.next <| C.seq <| ?_

      refine C.chainE [(0, _), (1, _), (2, _), (9, _)] rfl [(49, .bool (decide (ati < 0 ∨ (Jn.siz ls : Int) < ati)))] ?_ ?_
      ·
        refine C.region <| E.mv rfl rfl <| E.bin rfl rfl rfl rfl <| E.mv rfl rfl <| ?_
        refine E.split 44 rfl (fun g44 => ?_) (fun g44 => ?_)
        ·
          try simp only [decide_eq_true_eq, decide_eq_false_iff_not, ne_eq, Decidable.not_not, Bool.not_eq_true', Bool.not_eq_false'] at g44
          refine E.off rfl rfl rfl rfl <| E.off rfl rfl rfl rfl <| E.off rfl rfl rfl rfl <| E.off rfl rfl rfl rfl <| E.pick rfl rfl rfl <| E.nil <| X.join0 (Sub.cons (by (first | exact leaf_f (by omega) | exact leaf_t (by omega) | exact leaf_d (by omega) | exact leaf_f (by first | (simp [*] <;> fail) | omega) | exact leaf_t (by first | (simp [*] <;> fail) | omega) | exact leaf_d (by first | (simp [*] <;> fail) | omega) | exact leaf_f (by (first | omega | ((try simp only [decide_eq_true_eq, decide_eq_false_iff_not, Bool.not_eq_true', Bool.not_eq_false'] at *); first | omega | (simp_all <;> fail) | (simp_all; omega)))) | exact leaf_t (by (first | omega | ((try simp only [decide_eq_true_eq, decide_eq_false_iff_not, Bool.not_eq_true', Bool.not_eq_false'] at *); first | omega | (simp_all <;> fail) | (simp_all; omega)))) | exact leaf_d (by (first | omega | ((try simp only [decide_eq_true_eq, decide_eq_false_iff_not, Bool.not_eq_true', Bool.not_eq_false'] at *); first | omega | (simp_all <;> fail) | (simp_all; omega)))))) <| Sub.nil _) rfl rfl
        ·
          try simp only [decide_eq_true_eq, decide_eq_false_iff_not, ne_eq, Decidable.not_not, Bool.not_eq_true', Bool.not_eq_false'] at g44
          refine E.on rfl rfl (E.mv rfl rfl ?_)
          refine E.on rfl rfl (E.mv rfl rfl ?_)
          refine E.on rfl rfl (E.lenv rfl (Rd.shape (by first | exact hM.sl 0 rfl | exact hM.sl 1 rfl | exact hM.sl 2 rfl | exact hM.sl 3 rfl | exact hM.sl 4 rfl | exact hM.sl 5 rfl | exact hM.sl 6 rfl | exact hM.sl 7 rfl | exact hM.arg0 (by assumption) | exact hM.arg (by assumption) (by assumption) | assumption)) Try.underlying22 rfl ?_)
          rw [hel]
          refine E.on rfl rfl (E.bin rfl rfl rfl rfl ?_)
          refine E.pick rfl rfl rfl <| E.nil <| X.join0 (Sub.cons (by (first | exact leaf_f (by omega) | exact leaf_t (by omega) | exact leaf_d (by omega) | exact leaf_f (by first | (simp [*] <;> fail) | omega) | exact leaf_t (by first | (simp [*] <;> fail) | omega) | exact leaf_d (by first | (simp [*] <;> fail) | omega) | exact leaf_f (by (first | omega | ((try simp only [decide_eq_true_eq, decide_eq_false_iff_not, Bool.not_eq_true', Bool.not_eq_false'] at *); first | omega | (simp_all <;> fail) | (simp_all; omega)))) | exact leaf_t (by (first | omega | ((try simp only [decide_eq_true_eq, decide_eq_false_iff_not, Bool.not_eq_true', Bool.not_eq_false'] at *); first | omega | (simp_all <;> fail) | (simp_all; omega)))) | exact leaf_d (by (first | omega | ((try simp only [decide_eq_true_eq, decide_eq_false_iff_not, Bool.not_eq_true', Bool.not_eq_false'] at *); first | omega | (simp_all <;> fail) | (simp_all; omega)))))) <| Sub.nil _) rfl rfl
      refine C.cond' rfl (fun hC2 => ?_) (fun hC2 => ?_)
      ·
        refine C.seq <| C.region <| ?_
        refine E.call rfl rfl (alive_ret _) ?_
        rintro _ wz ⟨rfl, xz⟩
        have hM := hM.ext xz
        try dsimp only [List.nil_append, List.cons_append, List.set_cons_zero, List.set_cons_succ, repl] at hM
        refine E.asg rfl rfl <| E.nil <| X.next <| C.ret <| X.retT <| ret1 rfl rfl ?_
        exact ⟨rfl, hM.toExt⟩
      ·
        obtain ⟨at_, rfl⟩ : ∃ n : Nat, ati = (n : Int) := ⟨ati.toNat, by omega⟩
        have hat : at_ ≤ Jn.siz ls := by omega
        have htl : ((Jn.encs ls).take at_).length = at_ := by rw [List.length_take]; omega
        have hcl : ((Jn.encs ls).take at_ ++ other).length = at_ + other.length := by rw [List.length_append, htl]
        refine C.skip <| X.next <| C.seq <| C.region <| ?_
        refine E.mkM (enc := u8) (e := 5) [] hM rfl (fun _ => by kernel_rfl) rfl rfl rfl ?_
        intro v51 w6 hM
        try dsimp only [List.nil_append, List.cons_append, List.set_cons_zero, List.set_cons_succ, repl] at hM
        refine E.mv rfl rfl <| E.mv rfl rfl <| ?_
        refine E.slcP (k := .i64) 0 at_ rfl (.inr ⟨rfl, rfl⟩) (.inl rfl) (hM.sl 3 rfl) Try.underlying22 (by kernel_rfl) (by omega) (by omega) rfl ?_
        have r54 := (hM.sl 3 rfl).partV (a := 0) (b := at_) (by omega) (by omega)
        rw [cut_take] at r54
        refine E.appendM 4 hM rfl rfl rfl Try.underlying22 elem_Tuint8 r54 (fun _ => rfl) (by rw [htl]; simp only [List.length_nil]; omega) (by rw [htl]; simp only [List.length_nil]; omega) rfl ?_
        intro v55 w7 hM
        try dsimp only [List.nil_append, List.cons_append, List.set_cons_zero, List.set_cons_succ, repl] at hM
        refine E.mv rfl rfl <| ?_
        refine E.appendM 4 hM rfl rfl rfl Try.underlying22 elem_Tuint8 (hM.arg0 ho) (fun _ => rfl) (by rw [htl]; omega) (by rw [htl]; omega) rfl ?_
        intro v57 w8 hM
        try dsimp only [List.nil_append, List.cons_append, List.set_cons_zero, List.set_cons_succ, repl] at hM
        refine E.asg rfl rfl <| E.nil <| X.next <| C.seq <| C.region <| E.mv rfl rfl <| ?_
        refine E.call rfl rfl (Recover_ret v57 ((Jn.encs ls).take at_ ++ other) _ (hM.sl 4 rfl)) ?_
        rintro _ w5 ⟨u5, hs5, rfl, m5⟩
        have hM := hM.call m5
        obtain ⟨ml, hml⟩ : ∃ ml, ml = Jn.recs 65536 ((Jn.encs ls).take at_ ++ other) := ⟨_, rfl⟩
        rw [← hml] at hM ⊢
        have hM := hM.pick [4, 5, 6] (by decide)
        have hM : M w Nn _ [Rg.sl u8 5 v57 ((Jn.encs ls).take at_ ++ other), Rg.sl slv 22 u5 hs5, Rg.bag hs5 ml] := hM
        have hen := Jn.encs_recs 65536 ((Jn.encs ls).take at_ ++ other)
        rw [← hml] at hen
        have hmok : Jok ml := by rw [hml]; exact jok_recs (by omega)
        try dsimp only [List.nil_append, List.cons_append, List.set_cons_zero, List.set_cons_succ, repl] at hM
        refine E.mv rfl rfl <| E.ext rfl rfl rfl <| E.ext rfl rfl rfl <| E.asg rfl rfl <| E.asg rfl rfl <| E.nil <| X.next <| C.seq <| C.region <| E.asg rfl rfl <| E.nil <| X.next <| C.seq <| C.seq <| C.region <| E.mv rfl rfl <| ?_
        refine E.lenv rfl (Rd.shape (hM.arg0 hr)) Try.underlying27 rfl ?_
        refine E.mv rfl rfl <| E.nil <| X.next <| C.block <| ?_

        refine C.loop1 [(0, _), (1, _), (10, _), (11, _), (12, _), (64, _)] rfl (fun (i : Nat) => [(13, i64 (Jn.siz (ls.take i) : Int)), (65, i64 i)]) (fun (i : Nat) w' => M w (Nn) w' [Rg.sl u8 5 v57 ((Jn.encs ls).take at_ ++ other), Rg.sl slv 22 u5 hs5, Rg.bag hs5 ml] ∧ i ≤ ls.length) (fun (i : Nat) => ls.length - i) 0 ?_ ?_ ?_
        · exact Sub.cons rfl <| Sub.cons rfl <| Sub.nil _
        · exact ⟨hM, Nat.zero_le _⟩
        rintro i w10 ⟨hM, hi⟩
        refine C.seq <| C.region <| E.bin rfl rfl rfl rfl <| E.nil <| X.next <| C.seq <| ?_
        refine C.cond' rfl (fun hC3 => ?_) (fun hC3 => ?_)
        ·
          have hi' : i < ls.length := by omega
          have hss := siz_take_succ hi'
          have hmo := Jn.siz_mono ls (i + 1)
          have hb5 := hM.bag 2 rfl
          refine C.skip <| X.next <| C.seq <| C.block <| C.seq <| C.region <| E.mv rfl rfl <| E.asg rfl rfl <| E.nil <| X.next <| C.seq <| C.region <| E.mv rfl rfl <| ?_
          refine E.addN (b := 8) rfl rfl (by first | omega | (simp only [List.length_replicate, List.length_append, List.length_set, List.length_cons, List.length_nil, List.length_map, List.length_range, List.length_take, List.length_drop, List.length_zipWith] at *; omega)) rfl ?_
          refine E.mv rfl rfl <| E.mv rfl rfl <| ?_
          refine E.get (k := _) rfl rfl (by first | exact hM.sl 0 rfl | exact hM.sl 1 rfl | exact hM.sl 2 rfl | exact hM.sl 3 rfl | exact hM.sl 4 rfl | exact hM.sl 5 rfl | exact hM.sl 6 rfl | exact hM.sl 7 rfl | exact hM.arg0 (by assumption) | exact hM.arg (by assumption) (by assumption) | assumption) rfl (by first | omega | (simp only [List.length_replicate, List.length_append, List.length_set, List.length_cons, List.length_nil, List.length_map, List.length_range, List.length_take, List.length_drop, List.length_zipWith] at *; omega)) Try.underlying27 (by kernel_rfl) Try.underlying22 rfl rfl rfl ?_
          refine E.lenv rfl (Rd.shape ((hb.at hi').ext hM.toExt)) Try.underlying22 rfl ?_
          refine E.addN rfl rfl (by first | omega | (simp only [List.length_replicate, List.length_append, List.length_set, List.length_cons, List.length_nil, List.length_map, List.length_range, List.length_take, List.length_drop, List.length_zipWith] at *; omega)) rfl ?_
          rw [show Jn.siz (ls.take i) + 8 + ls[i].length = Jn.siz (ls.take (i + 1)) by omega]
          refine E.asg rfl rfl <| E.nil <| X.next <| ?_

          refine C.chainQ [(0, _), (1, _), (10, _), (11, _), (12, _), (13, _), (64, _), (65, _)] rfl [(97, .bool (decide False))] ?_ ?_
          ·
            refine C.drawn (by kernel_rfl) (by kernel_rfl) <| Q.mv rfl rfl <| Q.mv rfl rfl <| Q.bin rfl rfl rfl rfl <| Q.mv rfl rfl <| ?_
            refine Q.split 79 rfl (fun g79 => ?_) (fun g79 => ?_)
            ·
              try simp only [decide_eq_true_eq, decide_eq_false_iff_not, ne_eq, Decidable.not_not, Bool.not_eq_true', Bool.not_eq_false'] at g79
              have hsv := survive (other := other) hok hi' (show Jn.siz (ls.take (i + 1)) ≤ at_ by omega)
              rw [← hml] at hsv
              obtain ⟨himl, hmi⟩ := List.getElem?_eq_some_iff.1 hsv
              have hb51 := hb5.1
              refine Q.on rfl rfl (Q.mv rfl rfl ?_)
              refine Q.on rfl rfl (Q.mv rfl rfl ?_)
              refine Q.on rfl rfl (Q.lenv rfl (Rd.shape (by first | exact hM.sl 0 rfl | exact hM.sl 1 rfl | exact hM.sl 2 rfl | exact hM.sl 3 rfl | exact hM.sl 4 rfl | exact hM.sl 5 rfl | exact hM.sl 6 rfl | exact hM.sl 7 rfl | exact hM.arg0 (by assumption) | exact hM.arg (by assumption) (by assumption) | assumption)) Try.underlying27 rfl ?_)
              refine Q.on rfl rfl (Q.bin rfl rfl rfl rfl ?_)
              refine Q.on rfl rfl (Q.mv rfl rfl ?_)
              refine Q.split 84 rfl (fun g84 => ?_) (fun g84 => ?_)
              ·
                try simp only [decide_eq_true_eq, decide_eq_false_iff_not, ne_eq, Decidable.not_not, Bool.not_eq_true', Bool.not_eq_false'] at g84
                omega
              ·
                try simp only [decide_eq_true_eq, decide_eq_false_iff_not, ne_eq, Decidable.not_not, Bool.not_eq_true', Bool.not_eq_false'] at g84
                refine Q.on rfl rfl (Q.mv rfl rfl ?_)
                refine Q.on rfl rfl (Q.mv rfl rfl ?_)
                refine Q.on rfl rfl (Q.idx1 (k := _) rfl rfl (by first | exact hM.sl 0 rfl | exact hM.sl 1 rfl | exact hM.sl 2 rfl | exact hM.sl 3 rfl | exact hM.sl 4 rfl | exact hM.sl 5 rfl | exact hM.sl 6 rfl | exact hM.sl 7 rfl | exact hM.arg0 (by assumption) | exact hM.arg (by assumption) (by assumption) | assumption) rfl (by first | omega | (simp only [List.length_replicate, List.length_append, List.length_set, List.length_cons, List.length_nil, List.length_map, List.length_range, List.length_take, List.length_drop, List.length_zipWith] at *; omega)) Try.underlying27 (by kernel_rfl) rfl ?_)
                refine Q.on rfl rfl (Q.load rfl Try.underlying22 rfl (by first | exact (hM.sl 0 rfl).cellA rfl (by first | omega | (simp only [List.length_replicate, List.length_append, List.length_set, List.length_cons, List.length_nil, List.length_map, List.length_range, List.length_take, List.length_drop, List.length_zipWith] at *; omega)) | exact (hM.sl 1 rfl).cellA rfl (by first | omega | (simp only [List.length_replicate, List.length_append, List.length_set, List.length_cons, List.length_nil, List.length_map, List.length_range, List.length_take, List.length_drop, List.length_zipWith] at *; omega)) | exact (hM.sl 2 rfl).cellA rfl (by first | omega | (simp only [List.length_replicate, List.length_append, List.length_set, List.length_cons, List.length_nil, List.length_map, List.length_range, List.length_take, List.length_drop, List.length_zipWith] at *; omega)) | exact (hM.sl 3 rfl).cellA rfl (by first | omega | (simp only [List.length_replicate, List.length_append, List.length_set, List.length_cons, List.length_nil, List.length_map, List.length_range, List.length_take, List.length_drop, List.length_zipWith] at *; omega)) | exact (hM.sl 4 rfl).cellA rfl (by first | omega | (simp only [List.length_replicate, List.length_append, List.length_set, List.length_cons, List.length_nil, List.length_map, List.length_range, List.length_take, List.length_drop, List.length_zipWith] at *; omega)) | exact (hM.sl 5 rfl).cellA rfl (by first | omega | (simp only [List.length_replicate, List.length_append, List.length_set, List.length_cons, List.length_nil, List.length_map, List.length_range, List.length_take, List.length_drop, List.length_zipWith] at *; omega)) | exact (hM.sl 6 rfl).cellA rfl (by first | omega | (simp only [List.length_replicate, List.length_append, List.length_set, List.length_cons, List.length_nil, List.length_map, List.length_range, List.length_take, List.length_drop, List.length_zipWith] at *; omega)) | exact (hM.sl 7 rfl).cellA rfl (by first | omega | (simp only [List.length_replicate, List.length_append, List.length_set, List.length_cons, List.length_nil, List.length_map, List.length_range, List.length_take, List.length_drop, List.length_zipWith] at *; omega)) | exact (hM.arg0 (by assumption)).cellA rfl (by first | omega | (simp only [List.length_replicate, List.length_append, List.length_set, List.length_cons, List.length_nil, List.length_map, List.length_range, List.length_take, List.length_drop, List.length_zipWith] at *; omega)) | exact (hM.arg (by assumption) (by assumption)).cellA rfl (by first | omega | (simp only [List.length_replicate, List.length_append, List.length_set, List.length_cons, List.length_nil, List.length_map, List.length_range, List.length_take, List.length_drop, List.length_zipWith] at *; omega))) rfl ?_)
                refine Q.on rfl rfl (Q.bstr rfl (hb5.at himl) Try.underlying22 Try.underlying5 Try.underlying9 rfl ?_)
                refine Q.on rfl rfl (Q.mv rfl rfl ?_)
                refine Q.on rfl rfl (Q.mv rfl rfl ?_)
                refine Q.on rfl rfl (Q.idx1 (k := _) rfl rfl (by first | exact hM.sl 0 rfl | exact hM.sl 1 rfl | exact hM.sl 2 rfl | exact hM.sl 3 rfl | exact hM.sl 4 rfl | exact hM.sl 5 rfl | exact hM.sl 6 rfl | exact hM.sl 7 rfl | exact hM.arg0 (by assumption) | exact hM.arg (by assumption) (by assumption) | assumption) rfl (by first | omega | (simp only [List.length_replicate, List.length_append, List.length_set, List.length_cons, List.length_nil, List.length_map, List.length_range, List.length_take, List.length_drop, List.length_zipWith] at *; omega)) Try.underlying27 (by kernel_rfl) rfl ?_)
                refine Q.on rfl rfl (Q.load rfl Try.underlying22 rfl (by first | exact (hM.sl 0 rfl).cellA rfl (by first | omega | (simp only [List.length_replicate, List.length_append, List.length_set, List.length_cons, List.length_nil, List.length_map, List.length_range, List.length_take, List.length_drop, List.length_zipWith] at *; omega)) | exact (hM.sl 1 rfl).cellA rfl (by first | omega | (simp only [List.length_replicate, List.length_append, List.length_set, List.length_cons, List.length_nil, List.length_map, List.length_range, List.length_take, List.length_drop, List.length_zipWith] at *; omega)) | exact (hM.sl 2 rfl).cellA rfl (by first | omega | (simp only [List.length_replicate, List.length_append, List.length_set, List.length_cons, List.length_nil, List.length_map, List.length_range, List.length_take, List.length_drop, List.length_zipWith] at *; omega)) | exact (hM.sl 3 rfl).cellA rfl (by first | omega | (simp only [List.length_replicate, List.length_append, List.length_set, List.length_cons, List.length_nil, List.length_map, List.length_range, List.length_take, List.length_drop, List.length_zipWith] at *; omega)) | exact (hM.sl 4 rfl).cellA rfl (by first | omega | (simp only [List.length_replicate, List.length_append, List.length_set, List.length_cons, List.length_nil, List.length_map, List.length_range, List.length_take, List.length_drop, List.length_zipWith] at *; omega)) | exact (hM.sl 5 rfl).cellA rfl (by first | omega | (simp only [List.length_replicate, List.length_append, List.length_set, List.length_cons, List.length_nil, List.length_map, List.length_range, List.length_take, List.length_drop, List.length_zipWith] at *; omega)) | exact (hM.sl 6 rfl).cellA rfl (by first | omega | (simp only [List.length_replicate, List.length_append, List.length_set, List.length_cons, List.length_nil, List.length_map, List.length_range, List.length_take, List.length_drop, List.length_zipWith] at *; omega)) | exact (hM.sl 7 rfl).cellA rfl (by first | omega | (simp only [List.length_replicate, List.length_append, List.length_set, List.length_cons, List.length_nil, List.length_map, List.length_range, List.length_take, List.length_drop, List.length_zipWith] at *; omega)) | exact (hM.arg0 (by assumption)).cellA rfl (by first | omega | (simp only [List.length_replicate, List.length_append, List.length_set, List.length_cons, List.length_nil, List.length_map, List.length_range, List.length_take, List.length_drop, List.length_zipWith] at *; omega)) | exact (hM.arg (by assumption) (by assumption)).cellA rfl (by first | omega | (simp only [List.length_replicate, List.length_append, List.length_set, List.length_cons, List.length_nil, List.length_map, List.length_range, List.length_take, List.length_drop, List.length_zipWith] at *; omega))) rfl ?_)
                refine Q.on rfl rfl (Q.bstr rfl ((hb.at hi').ext hM.toExt) Try.underlying22 Try.underlying5 Try.underlying9 rfl ?_)
                refine Q.on rfl rfl (Q.nestr rfl rfl rfl ?_)
                rw [show decide (ml[i] ≠ ls[i]) = false from decide_eq_false (fun h => h hmi)]
                refine Q.on rfl rfl (Q.pick rfl rfl rfl ?_)
                refine Q.pick rfl rfl rfl <| Q.nil <| fun w11 hx11 => ?_
                refine X.join0 (Sub.cons (by (first | exact leaf_f (by omega) | exact leaf_t (by omega) | exact leaf_d (by omega) | exact leaf_f (by first | (simp [*] <;> fail) | omega) | exact leaf_t (by first | (simp [*] <;> fail) | omega) | exact leaf_d (by first | (simp [*] <;> fail) | omega) | exact leaf_f (by (first | omega | ((try simp only [decide_eq_true_eq, decide_eq_false_iff_not, Bool.not_eq_true', Bool.not_eq_false'] at *); first | omega | (simp_all <;> fail) | (simp_all; omega)))) | exact leaf_t (by (first | omega | ((try simp only [decide_eq_true_eq, decide_eq_false_iff_not, Bool.not_eq_true', Bool.not_eq_false'] at *); first | omega | (simp_all <;> fail) | (simp_all; omega)))) | exact leaf_d (by (first | omega | ((try simp only [decide_eq_true_eq, decide_eq_false_iff_not, Bool.not_eq_true', Bool.not_eq_false'] at *); first | omega | (simp_all <;> fail) | (simp_all; omega)))))) <| Sub.nil _) rfl hx11
            ·
              try simp only [decide_eq_true_eq, decide_eq_false_iff_not, ne_eq, Decidable.not_not, Bool.not_eq_true', Bool.not_eq_false'] at g79
              refine Q.off rfl rfl rfl rfl <| Q.off rfl rfl rfl rfl <| Q.off rfl rfl rfl rfl <| Q.off rfl rfl rfl rfl <| Q.off rfl rfl rfl rfl <| Q.offu rfl rfl rfl <| Q.offu rfl rfl rfl <| Q.offu rfl rfl rfl <| Q.offu rfl rfl rfl <| Q.offu rfl rfl rfl <| Q.offu rfl rfl rfl <| Q.offu rfl rfl rfl <| Q.offu rfl rfl rfl <| Q.offu rfl rfl rfl <| Q.offu rfl rfl rfl <| Q.offu rfl rfl rfl <| Q.off rfl rfl rfl rfl <| Q.pick rfl rfl rfl <| Q.nil <| fun w12 hx12 => ?_
              refine X.join0 (Sub.cons (by (first | exact leaf_f (by omega) | exact leaf_t (by omega) | exact leaf_d (by omega) | exact leaf_f (by first | (simp [*] <;> fail) | omega) | exact leaf_t (by first | (simp [*] <;> fail) | omega) | exact leaf_d (by first | (simp [*] <;> fail) | omega) | exact leaf_f (by (first | omega | ((try simp only [decide_eq_true_eq, decide_eq_false_iff_not, Bool.not_eq_true', Bool.not_eq_false'] at *); first | omega | (simp_all <;> fail) | (simp_all; omega)))) | exact leaf_t (by (first | omega | ((try simp only [decide_eq_true_eq, decide_eq_false_iff_not, Bool.not_eq_true', Bool.not_eq_false'] at *); first | omega | (simp_all <;> fail) | (simp_all; omega)))) | exact leaf_d (by (first | omega | ((try simp only [decide_eq_true_eq, decide_eq_false_iff_not, Bool.not_eq_true', Bool.not_eq_false'] at *); first | omega | (simp_all <;> fail) | (simp_all; omega)))))) <| Sub.nil _) rfl hx12
          intro w13 hx13
          have hM := hM.ext hx13
          refine C.cond' rfl (fun hC4 => ?_) (fun hC4 => ?_)
          ·
            refine C.seq <| C.region <| E.asg rfl rfl <| E.nil <| X.next <| C.ret <| X.retB <| X.retT <| X.retT <| X.retB <| X.retT <| ret1 rfl rfl ?_
            exact hC4.elim
          ·
            clear hC4
            refine C.skip <| X.outN <| X.next <| C.region <| ?_
            refine E.add rfl rfl (by omega) rfl ?_

            refine E.mv rfl rfl <| E.nil <| X.again1 (i + 1) (Sub.cons rfl <| Sub.cons rfl <| Sub.nil _) rfl ⟨hM, by omega⟩ (by omega)
        ·
          refine C.exit <| X.exitT <| X.exitT <| X.outE <| X.next <| C.seq <| C.region <| E.asg rfl rfl <| E.nil <| X.next <| C.seq <| C.seq <| C.region <| E.mv rfl rfl <| ?_
          have hb51 := (hM.bag 2 rfl).1
          have hms := hen.2
          refine E.lenv rfl (Rd.shape (by first | exact hM.sl 0 rfl | exact hM.sl 1 rfl | exact hM.sl 2 rfl | exact hM.sl 3 rfl | exact hM.sl 4 rfl | exact hM.sl 5 rfl | exact hM.sl 6 rfl | exact hM.sl 7 rfl | exact hM.arg0 (by assumption) | exact hM.arg (by assumption) (by assumption) | assumption)) Try.underlying27 rfl ?_
          refine E.mv rfl rfl <| E.nil <| X.next <| C.block <| ?_

          refine C.loop1 [(10, _), (11, _), (12, _), (100, _)] rfl (fun (i : Nat) => [(15, i64 (Jn.siz (ml.take i) : Int)), (101, i64 i)]) (fun (i : Nat) w' => M w (Nn) w' [Rg.sl u8 5 v57 ((Jn.encs ls).take at_ ++ other), Rg.sl slv 22 u5 hs5, Rg.bag hs5 ml] ∧ i ≤ ml.length) (fun (i : Nat) => ml.length - i) 0 ?_ ?_ ?_
          · exact Sub.cons rfl <| Sub.cons rfl <| Sub.nil _
          · exact ⟨hM, Nat.zero_le _⟩
          rintro i w14 ⟨hM, hi⟩
          refine C.seq <| C.region <| E.bin rfl rfl rfl rfl <| E.nil <| X.next <| C.seq <| ?_
          refine C.cond' rfl (fun hC5 => ?_) (fun hC5 => ?_)
          ·
            have hi' : i < ml.length := by omega
            have hss := siz_take_succ hi'
            have hmo := Jn.siz_mono ml (i + 1)
            have hb5 := hM.bag 2 rfl
            have hlm := hmok.1
            refine C.skip <| X.next <| C.seq <| C.block <| C.seq <| C.region <| E.mv rfl rfl <| E.asg rfl rfl <| E.nil <| X.next <| C.region <| E.mv rfl rfl <| ?_
            refine E.addN (b := 8) rfl rfl (by first | omega | (simp only [List.length_replicate, List.length_append, List.length_set, List.length_cons, List.length_nil, List.length_map, List.length_range, List.length_take, List.length_drop, List.length_zipWith] at *; omega)) rfl ?_
            refine E.mv rfl rfl <| E.mv rfl rfl <| ?_
            refine E.get (k := _) rfl rfl (by first | exact hM.sl 0 rfl | exact hM.sl 1 rfl | exact hM.sl 2 rfl | exact hM.sl 3 rfl | exact hM.sl 4 rfl | exact hM.sl 5 rfl | exact hM.sl 6 rfl | exact hM.sl 7 rfl | exact hM.arg0 (by assumption) | exact hM.arg (by assumption) (by assumption) | assumption) rfl (by first | omega | (simp only [List.length_replicate, List.length_append, List.length_set, List.length_cons, List.length_nil, List.length_map, List.length_range, List.length_take, List.length_drop, List.length_zipWith] at *; omega)) Try.underlying27 (by kernel_rfl) Try.underlying22 rfl rfl rfl ?_
            refine E.lenv rfl (Rd.shape (hb5.at hi')) Try.underlying22 rfl ?_
            refine E.addN rfl rfl (by first | omega | (simp only [List.length_replicate, List.length_append, List.length_set, List.length_cons, List.length_nil, List.length_map, List.length_range, List.length_take, List.length_drop, List.length_zipWith] at *; omega)) rfl ?_
            rw [show Jn.siz (ml.take i) + 8 + ml[i].length = Jn.siz (ml.take (i + 1)) by omega]
            refine E.asg rfl rfl <| E.nil <| X.outN <| X.next <| C.region <| ?_
            refine E.add rfl rfl (by omega) rfl ?_

            refine E.mv rfl rfl <| E.nil <| X.again1 (i + 1) (Sub.cons rfl <| Sub.cons rfl <| Sub.nil _) rfl ⟨hM, by omega⟩ (by omega)
          ·
            obtain rfl : i = ml.length := by omega
            rw [List.take_length]
            refine C.exit <| X.exitT <| X.exitT <| X.outE <| X.next <| C.seq <| C.region <| E.mv rfl rfl <| ?_
            refine E.call rfl rfl (Open_ret v57 ((Jn.encs ls).take at_ ++ other) _ (hM.sl 0 rfl) (by omega)) ?_
            rintro _ w6 ⟨b6, rfl, vr6, hs6, m6⟩
            rw [← hml] at m6
            have hM := hM.call m6
            have r140 : ∀ {w' rs}, M w Nn w' ([Rg.sl u8 5 v57 ((Jn.encs ls).take at_ ++ other)] ++ rs) → RdL u8 w' (partV v57 0 (Jn.siz ml)) (((Jn.encs ls).take at_ ++ other).take (Jn.siz ml)) := fun hM => by
              have := (hM.sl 0 rfl).partV (a := 0) (b := Jn.siz ml) (by omega) (by omega)
              rw [cut_take] at this; exact this
            have hM : M w Nn _ ([Rg.sl u8 5 v57 ((Jn.encs ls).take at_ ++ other), Rg.sl slv 22 u5 hs5, Rg.bag hs5 ml] ++ J3 b6 vr6 hs6 ml) := hM
            try dsimp only [List.nil_append, List.cons_append, List.set_cons_zero, List.set_cons_succ, repl] at hM
            refine E.mv rfl rfl <| E.ext rfl rfl rfl <| E.ext rfl rfl rfl <| E.asg rfl rfl <| E.asg rfl rfl <| E.nil <| X.next <| C.seq <| ?_

            refine C.chainE [(10, _), (11, _), (12, _), (17, _)] rfl [(134, .bool (decide False))] ?_ ?_
            ·
              refine C.region <| E.mv rfl rfl <| E.bin rfl rfl rfl rfl <| E.mv rfl rfl <| ?_
              refine E.split 120 rfl (fun g120 => ?_) (fun g120 => ?_)
              ·
                try simp only [decide_eq_true_eq, decide_eq_false_iff_not, ne_eq, Decidable.not_not, Bool.not_eq_true', Bool.not_eq_false'] at g120
                exact absurd g120 (by first | decide | (simp; done) | omega)
              ·
                try simp only [decide_eq_true_eq, decide_eq_false_iff_not, ne_eq, Decidable.not_not, Bool.not_eq_true', Bool.not_eq_false'] at g120
                refine E.on rfl rfl (E.mv rfl rfl ?_)
                refine E.on rfl rfl (E.eqnil rfl rfl Try.underlying33 rfl ?_)
                refine E.pick rfl rfl rfl <| E.mv rfl rfl <| ?_
                refine E.split 124 rfl (fun g124 => ?_) (fun g124 => ?_)
                ·
                  try simp only [decide_eq_true_eq, decide_eq_false_iff_not, ne_eq, Decidable.not_not, Bool.not_eq_true', Bool.not_eq_false'] at g124
                  exact absurd g124 (by first | decide | (simp; done) | omega)
                ·
                  try simp only [decide_eq_true_eq, decide_eq_false_iff_not, ne_eq, Decidable.not_not, Bool.not_eq_true', Bool.not_eq_false'] at g124
                  refine E.on rfl rfl (E.mv rfl rfl ?_)
                  refine E.on rfl rfl (E.mv rfl rfl ?_)
                  refine E.on rfl rfl (E.bin rfl rfl rfl rfl ?_)
                  refine E.pick rfl rfl rfl <| E.mv rfl rfl <| ?_
                  refine E.split 129 rfl (fun g129 => ?_) (fun g129 => ?_)
                  ·
                    try simp only [decide_eq_true_eq, decide_eq_false_iff_not, ne_eq, Decidable.not_not, Bool.not_eq_true', Bool.not_eq_false'] at g129
                    exact absurd g129 (by first | decide | (simp; done) | omega)
                  ·
                    try simp only [decide_eq_true_eq, decide_eq_false_iff_not, ne_eq, Decidable.not_not, Bool.not_eq_true', Bool.not_eq_false'] at g129
                    refine E.on rfl rfl (E.mv rfl rfl ?_)
                    refine E.on rfl rfl (E.mv rfl rfl ?_)
                    refine E.on rfl rfl (E.lenv rfl (Rd.shape (by first | exact hM.sl 0 rfl | exact hM.sl 1 rfl | exact hM.sl 2 rfl | exact hM.sl 3 rfl | exact hM.sl 4 rfl | exact hM.sl 5 rfl | exact hM.sl 6 rfl | exact hM.sl 7 rfl | exact hM.arg0 (by assumption) | exact hM.arg (by assumption) (by assumption) | assumption)) Try.underlying22 rfl ?_)
                    refine E.on rfl rfl (E.bin rfl rfl rfl rfl ?_)
                    refine E.pick rfl rfl rfl <| E.nil <| X.join0 (Sub.cons (by (first | exact leaf_f (by omega) | exact leaf_t (by omega) | exact leaf_d (by omega) | exact leaf_f (by first | (simp [*] <;> fail) | omega) | exact leaf_t (by first | (simp [*] <;> fail) | omega) | exact leaf_d (by first | (simp [*] <;> fail) | omega) | exact leaf_f (by (first | omega | ((try simp only [decide_eq_true_eq, decide_eq_false_iff_not, Bool.not_eq_true', Bool.not_eq_false'] at *); first | omega | (simp_all <;> fail) | (simp_all; omega)))) | exact leaf_t (by (first | omega | ((try simp only [decide_eq_true_eq, decide_eq_false_iff_not, Bool.not_eq_true', Bool.not_eq_false'] at *); first | omega | (simp_all <;> fail) | (simp_all; omega)))) | exact leaf_d (by (first | omega | ((try simp only [decide_eq_true_eq, decide_eq_false_iff_not, Bool.not_eq_true', Bool.not_eq_false'] at *); first | omega | (simp_all <;> fail) | (simp_all; omega)))))) <| Sub.nil _) rfl rfl
            refine C.cond' rfl (fun hC6 => ?_) (fun hC6 => ?_)
            ·
              refine C.seq <| C.region <| E.asg rfl rfl <| E.nil <| X.next <| C.ret <| X.retT <| ret1 rfl rfl ?_
              exact hC6.elim
            ·
              clear hC6
              refine C.skip <| X.next <| ?_

              refine C.cut0 [] rfl [(6, .bool true)] (fun w' => M w (Nn) w' []) ?_ ?_
              ·
                refine C.heldE (by kernel_rfl) fun wh16 hwh16 _ => ?_
                have hS := hwh16
                have hM0 := hM
                have hM := M.ofExt hwh16
                refine H.take 0 rfl rfl (by kernel_rfl) (by kernel_rfl) (by kernel_rfl) hS (fun w' hS => by have hM := hM0.ext hS; exact Y.mv rfl) rfl ?_
                refine H.take 3 rfl rfl (by kernel_rfl) (by kernel_rfl) (by kernel_rfl) hS (fun w' hS => by have hM := hM0.ext hS; exact Y.mv rfl) rfl ?_
                refine H.take 4 rfl rfl (by kernel_rfl) (by kernel_rfl) (by kernel_rfl) hS (fun w' hS => by have hM := hM0.ext hS; exact Y.mv rfl) rfl ?_
                refine H.takeV 5 rfl rfl (by kernel_rfl) (by kernel_rfl) (by kernel_rfl) hS (Y.slcP (k := .i64) 0 (Jn.siz ml) rfl (.inr ⟨rfl, rfl⟩) (.inl rfl) ((hM0.ext hS).sl 0 rfl) Try.underlying22 (by kernel_rfl) (by omega) (by omega)) (fun w' hS => by have hM := hM0.ext hS; exact Y.slcP (k := .i64) 0 (Jn.siz ml) rfl (.inr ⟨rfl, rfl⟩) (.inl rfl) ((hM0.ext hS).sl 0 rfl) Try.underlying22 (by kernel_rfl) (by omega) (by omega)) rfl ?_
                refine H.takeV 6 rfl rfl (by kernel_rfl) (by kernel_rfl) (by kernel_rfl) hS (Y.bstr rfl (r140 (hM0.ext hS)) Try.underlying22 Try.underlying5 Try.underlying9) (fun w' hS => by have hM := hM0.ext hS; exact Y.bstr rfl (r140 (hM0.ext hS)) Try.underlying22 Try.underlying5 Try.underlying9) rfl ?_
                rw [← hen.1]
                refine H.only 1 rfl (by kernel_rfl) ?_
                refine E.call rfl rfl (BytesE_ret b6 vr6 hs6 ml _ ((hM0.call hM).pick [3, 4, 5] (by decide)).sep hmok) ?_
                rintro v136 wa ma
                have hM := hM.call ma
                try dsimp only [List.nil_append, List.cons_append, List.set_cons_zero, List.set_cons_succ, repl] at hM
                have hS := hM.toExt
                refine H.back hS ?_
                refine H.only 2 rfl (by kernel_rfl) ?_
                refine E.bstr rfl ((hM0.call hM).sl 6 rfl) Try.underlying22 Try.underlying5 Try.underlying9 rfl ?_
                have hS := hM.toExt
                refine H.back hS ?_
                refine H.take 7 rfl rfl (by kernel_rfl) (by kernel_rfl) (by kernel_rfl) hS (fun w' hS => by have hM := hM0.ext hS; exact Y.eqstr rfl rfl) rfl ?_
                refine H.take 8 rfl rfl (by kernel_rfl) (by kernel_rfl) (by kernel_rfl) hS (fun w' hS => by have hM := hM0.ext hS; exact Y.mv rfl) rfl ?_
                refine H.split 143 rfl (fun g143 => ?_) (fun g143 => ?_)
                ·
                  try simp only [decide_eq_true_eq, decide_eq_false_iff_not, ne_eq, Decidable.not_not, Bool.not_eq_true', Bool.not_eq_false'] at g143
                  refine H.take 9 rfl rfl (by kernel_rfl) (by kernel_rfl) (by kernel_rfl) hS (fun w' hS => by have hM := hM0.ext hS; exact Y.on rfl rfl (Y.mv rfl)) rfl ?_
                  refine H.take 11 rfl rfl (by kernel_rfl) (by kernel_rfl) (by kernel_rfl) hS (fun w' hS => by have hM := hM0.ext hS; exact Y.on rfl rfl (Y.mv rfl)) rfl ?_
                  refine H.only 10 rfl (by kernel_rfl) ?_
                  refine E.on rfl rfl (E.call rfl rfl (RecordsE_ret b6 vr6 hs6 ml _ ((hM0.call hM).pick [3, 4, 5] (by decide)).sep hmok) ?_)
                  rintro v145 wb ⟨hsb, mb⟩
                  have hM := hM.call mb
                  try dsimp only [List.nil_append, List.cons_append, List.set_cons_zero, List.set_cons_succ, repl] at hM
                  have hS := hM.toExt
                  refine H.back hS ?_
                  refine H.only 12 rfl (by kernel_rfl) ?_
                  refine E.on rfl rfl (E.call rfl rfl (Same_ret v145 u5 hsb hs5 _ _ _ ((hM0.call hM).sl 7 rfl) ((hM0.call hM).bag 8 rfl) ((hM0.call hM).sl 1 rfl) ((hM0.call hM).bag 2 rfl)) ?_)
                  rintro _ wc ⟨rfl, xc⟩
                  have hM := hM.ext xc
                  rw [decide_eq_true rfl]
                  try dsimp only [List.nil_append, List.cons_append, List.set_cons_zero, List.set_cons_succ, repl] at hM
                  have hS := hM.toExt
                  refine H.back hS ?_
                  refine H.take 13 rfl rfl (by kernel_rfl) (by kernel_rfl) (by kernel_rfl) hS (fun w' hS => by have hM := hM0.ext hS; exact Y.pick rfl rfl) rfl ?_
                  refine H.take 14 rfl rfl (by kernel_rfl) (by kernel_rfl) (by kernel_rfl) hS (fun w' hS => by have hM := hM0.ext hS; exact Y.mv rfl) rfl ?_
                  refine H.split 149 rfl (fun g149 => ?_) (fun g149 => ?_)
                  ·
                    try simp only [decide_eq_true_eq, decide_eq_false_iff_not, ne_eq, Decidable.not_not, Bool.not_eq_true', Bool.not_eq_false'] at g149
                    refine H.only 15 rfl (by kernel_rfl) ?_
                    refine E.on rfl rfl (E.call rfl rfl (alive_ret _) ?_)
                    rintro _ we ⟨rfl, xe⟩
                    have hM := hM.ext xe
                    try dsimp only [List.nil_append, List.cons_append, List.set_cons_zero, List.set_cons_succ, repl] at hM
                    have hS := hM.toExt
                    refine H.back hS ?_
                    refine H.take 16 rfl rfl (by kernel_rfl) (by kernel_rfl) (by kernel_rfl) hS (fun w' hS => by have hM := hM0.ext hS; exact Y.pick rfl rfl) rfl ?_
                    refine H.take 17 rfl rfl (by kernel_rfl) (by kernel_rfl) (by kernel_rfl) hS (fun w' hS => by have hM := hM0.ext hS; exact Y.asg rfl) rfl ?_
                    refine H.done (by kernel_rfl) ?_
                    have hM := hM0.call hM

                    refine X.join0  (Sub.cons rfl <| Sub.nil _) rfl (hM.pick [] (by decide))
                  ·
                    try simp only [decide_eq_true_eq, decide_eq_false_iff_not, ne_eq, Decidable.not_not, Bool.not_eq_true', Bool.not_eq_false'] at g149
                    exact absurd g149 (by first | decide | (simp; done) | omega)
                ·
                  try simp only [decide_eq_true_eq, decide_eq_false_iff_not, ne_eq, Decidable.not_not, Bool.not_eq_true', Bool.not_eq_false'] at g143
                  exact absurd g143 (by first | decide | (simp; done) | omega)
              rintro  w21 hM
              refine C.ret <| ret1 rfl rfl ?_
              exact ⟨rfl, hM.toExt⟩

end Go.Proofs.Ytdcgmkoonanpgaa
