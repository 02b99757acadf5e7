/- prefix: Decode. -/
import Derived.Test.YtdcgmkoonanpgaaPf7
namespace Go.Proofs.Ytdcgmkoonanpgaa
set_option linter.unusedSimpArgs false
set_option linter.unusedVariables false
open Go.RowKit Sym

set_option maxHeartbeats 1000000 in
theorem rDecode_ret (p q : Value) (zs : List Int) (b : List Bool) (at_ : Int) (w : World) (hr : RdL i64 w p zs) (hq : RdL Value.bool w q b) :
    Ret Try.prog 45 #[p, q, i64 at_] w fun v w' => v = .tuple #[i64 ((dev zs b at_).1 : Int), i64 ((dev zs b at_).2.1 : Int), i64 (dev zs b at_).2.2] ∧ Ext w w' := by
  have hM := M.start w
  refine enter Try.func45 rfl (by kernel_rfl) Try.ntmps45 rfl ?_
  refine C.seq <| C.region <| E.asg rfl rfl <| E.asg rfl rfl <| E.asg rfl rfl <| E.nil <| X.next <| C.seq <| C.region <| E.mv rfl rfl <| ?_
  refine E.call rfl rfl (rCodes_ret p zs _ (hM.arg0 hr)) ?_
  rintro _ w1 ⟨v17, rfl, m⟩
  have hM := hM.call m
  try dsimp only [List.nil_append, List.cons_append, List.set_cons_zero, List.set_cons_succ, repl] at hM
  refine E.mv rfl rfl <| E.ext rfl rfl rfl <| E.ext rfl rfl rfl <| E.asg rfl rfl <| E.asg rfl rfl <| E.nil <| X.next <| C.seq <| C.seq <| C.region <| E.mv rfl rfl <| E.bin rfl rfl rfl rfl <| E.nil <| X.next <| ?_
  refine C.cond' rfl (fun hC0 => ?_) (fun hC0 => ?_)
  ·
    refine C.seq <| C.region <| E.mv rfl rfl <| E.asg rfl rfl <| E.asg rfl rfl <| E.asg rfl rfl <| E.nil <| X.next <| C.ret <| X.retT <| ret3 rfl rfl rfl rfl ?_
    exact ⟨by rw [dev_bad hC0]; rfl, hM.toExt⟩
  ·
    have hck := Decidable.byContradiction hC0
    obtain ⟨hl4, hok, hkr⟩ := ckv_ok hck
    obtain ⟨hr', hb⟩ := ok_kr hr hok
    have hlz := toN_len zs
    rw [cdv, if_pos hck] at hM
    obtain ⟨l, hl⟩ : ∃ l, l = toN zs := ⟨_, rfl⟩
    rw [← hl] at hr' hb hkr hlz hM
    have hnl := nz_len l
    have hcl := cdl_len l
    have hbl := Rd.le hq
    have hod := Pf.od_le l
    refine C.skip <| X.next <| C.seq <| ?_

    refine C.chainE [(0, _), (1, _), (2, _), (9, _)] rfl [(30, .bool (decide (at_ < 0 ∨ (b.length : Int) < at_)))] ?_ ?_
    ·
      refine C.region <| E.mv rfl rfl <| E.bin rfl rfl rfl rfl <| E.mv rfl rfl <| ?_
      refine E.split 25 rfl (fun g25 => ?_) (fun g25 => ?_)
      ·
        try simp only [decide_eq_true_eq, decide_eq_false_iff_not, ne_eq, Decidable.not_not, Bool.not_eq_true', Bool.not_eq_false'] at g25
        refine E.off rfl rfl rfl rfl <| E.off rfl rfl rfl rfl <| E.off rfl rfl rfl rfl <| E.off rfl rfl rfl rfl <| E.pick rfl rfl rfl <| E.nil <| X.join0 (Sub.cons (by (first | exact leaf_f (by omega) | exact leaf_t (by omega) | exact leaf_d (by omega) | exact leaf_f (by first | (simp [*] <;> fail) | omega) | exact leaf_t (by first | (simp [*] <;> fail) | omega) | exact leaf_d (by first | (simp [*] <;> fail) | omega) | exact leaf_f (by (first | omega | ((try simp only [decide_eq_true_eq, decide_eq_false_iff_not, Bool.not_eq_true', Bool.not_eq_false'] at *); first | omega | (simp_all <;> fail) | (simp_all; omega)))) | exact leaf_t (by (first | omega | ((try simp only [decide_eq_true_eq, decide_eq_false_iff_not, Bool.not_eq_true', Bool.not_eq_false'] at *); first | omega | (simp_all <;> fail) | (simp_all; omega)))) | exact leaf_d (by (first | omega | ((try simp only [decide_eq_true_eq, decide_eq_false_iff_not, Bool.not_eq_true', Bool.not_eq_false'] at *); first | omega | (simp_all <;> fail) | (simp_all; omega)))))) <| Sub.nil _) rfl rfl
      ·
        try simp only [decide_eq_true_eq, decide_eq_false_iff_not, ne_eq, Decidable.not_not, Bool.not_eq_true', Bool.not_eq_false'] at g25
        refine E.on rfl rfl (E.mv rfl rfl ?_)
        refine E.on rfl rfl (E.mv rfl rfl ?_)
        refine E.on rfl rfl (E.lenv rfl (Rd.shape (hM.arg0 hq)) Try.underlying76 rfl ?_)
        refine E.on rfl rfl (E.bin rfl rfl rfl rfl ?_)
        refine E.pick rfl rfl rfl <| E.nil <| X.join0 (Sub.cons (by (first | exact leaf_f (by omega) | exact leaf_t (by omega) | exact leaf_d (by omega) | exact leaf_f (by first | (simp [*] <;> fail) | omega) | exact leaf_t (by first | (simp [*] <;> fail) | omega) | exact leaf_d (by first | (simp [*] <;> fail) | omega) | exact leaf_f (by (first | omega | ((try simp only [decide_eq_true_eq, decide_eq_false_iff_not, Bool.not_eq_true', Bool.not_eq_false'] at *); first | omega | (simp_all <;> fail) | (simp_all; omega)))) | exact leaf_t (by (first | omega | ((try simp only [decide_eq_true_eq, decide_eq_false_iff_not, Bool.not_eq_true', Bool.not_eq_false'] at *); first | omega | (simp_all <;> fail) | (simp_all; omega)))) | exact leaf_d (by (first | omega | ((try simp only [decide_eq_true_eq, decide_eq_false_iff_not, Bool.not_eq_true', Bool.not_eq_false'] at *); first | omega | (simp_all <;> fail) | (simp_all; omega)))))) <| Sub.nil _) rfl rfl
    refine C.cond' rfl (fun hC1 => ?_) (fun hC1 => ?_)
    ·
      refine C.seq <| C.region <| E.asg rfl rfl <| E.asg rfl rfl <| E.asg rfl rfl <| E.nil <| X.next <| C.ret <| X.retT <| ret3 rfl rfl rfl rfl ?_
      exact ⟨by rw [dev_rng hck hC1]; rfl, hM.toExt⟩
    ·
      have hdv := dev_go (b := b) hck hC1
      rw [← hl] at hdv
      obtain ⟨a, rfl⟩ : ∃ a : Nat, at_ = (a : Int) := ⟨at_.toNat, by omega⟩
      rw [Int.toNat_natCast] at hdv
      have hab : a ≤ b.length := by omega
      refine C.skip <| X.next <| C.seq <| C.region <| E.asg rfl rfl <| E.nil <| X.next <| C.block <| ?_

      refine C.loop1 [(0, _), (1, _), (2, _), (9, _)] rfl (fun (n : Nat) => [(11, i64 n)]) (fun (n : Nat) w' => M w (Nn) w' [Rg.sl i64 3 v17 (Pf.cdl l)] ∧ n ≤ 30 ∧ (b.length < a + n → dev zs b a = (0, 0, 10)) ∧ (a + n ≤ b.length → dev zs b a = dgo l b a (31 - n) n)) (fun (n : Nat) => 31 - n) 0 ?_ ?_ ?_
      · exact Sub.cons rfl <| Sub.nil _
      · exact ⟨hM, by omega, fun h => by omega, fun _ => hdv⟩
      rintro n w1 ⟨hM, hn, hd1, hd2⟩
      refine C.seq <| C.block <| C.seq <| C.region <| E.mv rfl rfl <| E.mv rfl rfl <| E.mv rfl rfl <| ?_
      refine E.call rfl rfl (rTake_ret q b a n _ (hM.arg0 hq) (by omega) hab) ?_
      rintro _ w2 ⟨rfl, x2⟩
      have hM := hM.ext x2
      try dsimp only [List.nil_append, List.cons_append, List.set_cons_zero, List.set_cons_succ, repl] at hM
      refine E.mv rfl rfl <| E.ext rfl rfl rfl <| E.ext rfl rfl rfl <| E.asg rfl rfl <| E.asg rfl rfl <| E.nil <| X.next <| C.seq <| C.seq <| C.region <| E.mv rfl rfl <| E.bin rfl rfl rfl rfl <| E.nil <| X.next <| ?_
      refine C.cond' rfl (fun hC2 => ?_) (fun hC2 => ?_)
      ·
        have hlt : b.length < a + n := by by_cases h : b.length < a + n; exact h; rw [if_neg h] at hC2; exact (hC2 rfl).elim
        refine C.seq <| C.region <| E.asg rfl rfl <| E.asg rfl rfl <| E.asg rfl rfl <| E.nil <| X.next <| C.ret <| X.retT <| X.retB <| X.retT <| X.retT <| X.retB <| ret3 rfl rfl rfl rfl ?_
        exact ⟨by rw [hd1 hlt]; rfl, hM.toExt⟩
      ·
        have hlt : ¬ b.length < a + n := by intro h; rw [if_pos h] at hC2; exact absurd hC2 (by decide)
        have hD := hd2 (by omega)
        obtain ⟨f, hf1, hf2⟩ := dgo_fuel (l := l) (b := b) (a := a) hn
        rw [hf1] at hD
        rw [if_neg hlt, if_neg hlt]
        have htk := tkv_40 (b := b) (a := a) (n := n) (by omega) (by omega)
        refine C.skip <| X.next <| C.seq <| C.seq <| C.region <| E.asg rfl rfl <| E.nil <| X.next <| C.block <| ?_

        refine C.loop1 [(0, _), (1, _), (2, _), (9, _), (11, _), (12, _)] rfl (fun (i : Nat) => [(14, i64 i)]) (fun (i : Nat) w' => M w (Nn) w' [Rg.sl i64 3 v17 (Pf.cdl l)] ∧ i ≤ l.length ∧ ∀ j, j < i → ¬ (0 < n ∧ l.getD j 0 = n ∧ Pf.code l j = tkv b a n)) (fun (i : Nat) => l.length - i) 0 ?_ ?_ ?_
        · exact Sub.cons rfl <| Sub.nil _
        · exact ⟨hM, Nat.zero_le _, fun j hj => by omega⟩
        rintro i w3 ⟨hM, hi, hno⟩
        refine C.seq <| C.seq <| C.region <| E.mv rfl rfl <| E.mv rfl rfl <| ?_
        refine E.lenv rfl (Rd.shape (hM.arg0 hr')) Try.underlying67 rfl ?_
        rw [nz_len]
        refine E.bin rfl rfl rfl rfl <| E.nil <| X.next <| ?_
        refine C.cond' rfl (fun hC3 => ?_) (fun hC3 => ?_)
        ·
          have hi' : i < l.length := by omega
          have hgd := Pf.getD_eq hi'
          have hbi := hb l[i] (List.getElem_mem hi')
          refine C.skip <| X.next <| C.seq <| C.block <| ?_

          refine C.chainE [(0, _), (1, _), (2, _), (9, _), (11, _), (12, _), (14, _)] rfl [(65, .bool (decide (0 < n ∧ l[i] = n ∧ Pf.code l i = tkv b a n)))] ?_ ?_
          ·
            refine C.region <| E.mv rfl rfl <| E.bin rfl rfl rfl rfl <| E.mv rfl rfl <| ?_
            refine E.split 50 rfl (fun g50 => ?_) (fun g50 => ?_)
            ·
              try simp only [decide_eq_true_eq, decide_eq_false_iff_not, ne_eq, Decidable.not_not, Bool.not_eq_true', Bool.not_eq_false'] at g50
              refine E.on rfl rfl (E.mv rfl rfl ?_)
              refine E.on rfl rfl (E.mv rfl rfl ?_)
              refine E.on rfl rfl (E.idx1 (k := i) rfl rfl (hM.arg0 hr') rfl (by omega) Try.underlying67 (by kernel_rfl) rfl ?_)
              refine E.on rfl rfl (E.load rfl Try.underlying3 rfl ((hM.arg0 hr').cell (by omega)) rfl ?_)
              rw [nz_get hi']
              refine E.on rfl rfl (E.mv rfl rfl ?_)
              refine E.on rfl rfl (E.bin rfl rfl rfl rfl ?_)
              refine E.pick rfl rfl rfl <| E.mv rfl rfl <| ?_
              refine E.split 58 rfl (fun g58 => ?_) (fun g58 => ?_)
              ·
                try simp only [decide_eq_true_eq, decide_eq_false_iff_not, ne_eq, Decidable.not_not, Bool.not_eq_true', Bool.not_eq_false'] at g58
                refine E.on rfl rfl (E.mv rfl rfl ?_)
                refine E.on rfl rfl (E.mv rfl rfl ?_)
                refine E.on rfl rfl (E.idx1 (k := i) rfl rfl (hM.sl 0 rfl) rfl (by omega) Try.underlying67 (by kernel_rfl) rfl ?_)
                refine E.on rfl rfl (E.load rfl Try.underlying3 rfl ((hM.sl 0 rfl).cell (by omega)) rfl ?_)
                rw [cdl_get]
                refine E.on rfl rfl (E.mv rfl rfl ?_)
                refine E.on rfl rfl (E.bin rfl rfl rfl rfl ?_)
                refine E.pick rfl rfl rfl <| E.nil <| X.join0 (Sub.cons (by (first | exact leaf_f (by omega) | exact leaf_t (by omega) | exact leaf_d (by omega) | exact leaf_f (by first | (simp [*] <;> fail) | omega) | exact leaf_t (by first | (simp [*] <;> fail) | omega) | exact leaf_d (by first | (simp [*] <;> fail) | omega) | exact leaf_f (by (first | omega | ((try simp only [decide_eq_true_eq, decide_eq_false_iff_not, Bool.not_eq_true', Bool.not_eq_false'] at *); first | omega | (simp_all <;> fail) | (simp_all; omega)))) | exact leaf_t (by (first | omega | ((try simp only [decide_eq_true_eq, decide_eq_false_iff_not, Bool.not_eq_true', Bool.not_eq_false'] at *); first | omega | (simp_all <;> fail) | (simp_all; omega)))) | exact leaf_d (by (first | omega | ((try simp only [decide_eq_true_eq, decide_eq_false_iff_not, Bool.not_eq_true', Bool.not_eq_false'] at *); first | omega | (simp_all <;> fail) | (simp_all; omega)))))) <| Sub.nil _) rfl rfl
              ·
                try simp only [decide_eq_true_eq, decide_eq_false_iff_not, ne_eq, Decidable.not_not, Bool.not_eq_true', Bool.not_eq_false'] at g58
                refine E.off rfl rfl rfl rfl <| E.off rfl rfl rfl rfl <| E.off rfl rfl rfl rfl <| E.off rfl rfl rfl rfl <| E.off rfl rfl rfl rfl <| E.off rfl rfl rfl rfl <| E.pick rfl rfl rfl <| E.nil <| X.join0 (Sub.cons (by (first | exact leaf_f (by omega) | exact leaf_t (by omega) | exact leaf_d (by omega) | exact leaf_f (by first | (simp [*] <;> fail) | omega) | exact leaf_t (by first | (simp [*] <;> fail) | omega) | exact leaf_d (by first | (simp [*] <;> fail) | omega) | exact leaf_f (by (first | omega | ((try simp only [decide_eq_true_eq, decide_eq_false_iff_not, Bool.not_eq_true', Bool.not_eq_false'] at *); first | omega | (simp_all <;> fail) | (simp_all; omega)))) | exact leaf_t (by (first | omega | ((try simp only [decide_eq_true_eq, decide_eq_false_iff_not, Bool.not_eq_true', Bool.not_eq_false'] at *); first | omega | (simp_all <;> fail) | (simp_all; omega)))) | exact leaf_d (by (first | omega | ((try simp only [decide_eq_true_eq, decide_eq_false_iff_not, Bool.not_eq_true', Bool.not_eq_false'] at *); first | omega | (simp_all <;> fail) | (simp_all; omega)))))) <| Sub.nil _) rfl rfl
            ·
              try simp only [decide_eq_true_eq, decide_eq_false_iff_not, ne_eq, Decidable.not_not, Bool.not_eq_true', Bool.not_eq_false'] at g50
              refine E.off rfl rfl rfl rfl <| E.off rfl rfl rfl rfl <| E.off rfl rfl rfl rfl <| E.off rfl rfl rfl rfl <| E.off rfl rfl rfl rfl <| E.off rfl rfl rfl rfl <| E.pick rfl rfl rfl <| E.mv rfl rfl <| E.off rfl rfl rfl rfl <| E.off rfl rfl rfl rfl <| E.off rfl rfl rfl rfl <| E.off rfl rfl rfl rfl <| E.off rfl rfl rfl rfl <| E.off rfl rfl rfl rfl <| E.pick rfl rfl rfl <| E.nil <| X.join0 (Sub.cons (by (first | exact leaf_f (by omega) | exact leaf_t (by omega) | exact leaf_d (by omega) | exact leaf_f (by first | (simp [*] <;> fail) | omega) | exact leaf_t (by first | (simp [*] <;> fail) | omega) | exact leaf_d (by first | (simp [*] <;> fail) | omega) | exact leaf_f (by (first | omega | ((try simp only [decide_eq_true_eq, decide_eq_false_iff_not, Bool.not_eq_true', Bool.not_eq_false'] at *); first | omega | (simp_all <;> fail) | (simp_all; omega)))) | exact leaf_t (by (first | omega | ((try simp only [decide_eq_true_eq, decide_eq_false_iff_not, Bool.not_eq_true', Bool.not_eq_false'] at *); first | omega | (simp_all <;> fail) | (simp_all; omega)))) | exact leaf_d (by (first | omega | ((try simp only [decide_eq_true_eq, decide_eq_false_iff_not, Bool.not_eq_true', Bool.not_eq_false'] at *); first | omega | (simp_all <;> fail) | (simp_all; omega)))))) <| Sub.nil _) rfl rfl
          refine C.cond' rfl (fun hC4 => ?_) (fun hC4 => ?_)
          ·
            have hfd := Pf.fnd_some hb hi' hC4.1 (by rw [hgd]; exact hC4.2.1) hC4.2.2
            refine C.seq <| C.region <| E.mv rfl rfl <| E.mv rfl rfl <| E.asg rfl rfl <| E.asg rfl rfl <| E.asg rfl rfl <| E.nil <| X.next <| C.ret <| X.retB <| X.retT <| X.retT <| X.retB <| X.retT <| X.retB <| X.retT <| X.retT <| X.retB <| ret3 rfl rfl rfl rfl ?_
            exact ⟨by rw [hD, dgo_found hfd], hM.toExt⟩
          ·
            refine C.skip <| X.outN <| X.next <| C.region <| E.mv rfl rfl <| ?_
            refine E.add rfl rfl (by omega) rfl ?_

            refine E.asg rfl rfl <| E.nil <| X.again1 (i + 1) (Sub.cons rfl <| Sub.nil _) rfl ⟨hM, by omega, fun j hj => by by_cases e : j = i; subst e; rw [hgd]; exact hC4; exact hno j (by omega)⟩ (by omega)
        ·
          have hfd : Pf.fnd l (tkv b a n) n = none := Pf.fnd_none.2 fun j hj => hno j (by omega)
          refine C.exit <| X.exitT <| X.exitT <| X.outE <| X.next <| C.seq <| C.region <| E.mv rfl rfl <| E.mv rfl rfl <| E.mv rfl rfl <| E.mv rfl rfl <| ?_
          refine E.call rfl rfl (begins_ret p v17 l (tkv b a n) n _ (hM.arg0 hr') (hM.sl 0 rfl) hb hn) ?_
          rintro _ w3 ⟨rfl, x3⟩
          have hM := hM.ext x3
          try dsimp only [List.nil_append, List.cons_append, List.set_cons_zero, List.set_cons_succ, repl] at hM
          refine E.not rfl rfl <| E.nil <| X.next <| ?_
          refine C.cond rfl (fun hC5 => ?_) (fun hC5 => ?_)
          ·
            have hbg : begB l (tkv b a n) n = false := by simpa using hC5
            refine C.seq <| C.region <| E.asg rfl rfl <| E.asg rfl rfl <| E.asg rfl rfl <| E.nil <| X.next <| C.ret <| X.retB <| X.retT <| X.retT <| X.retB <| ret3 rfl rfl rfl rfl ?_
            exact ⟨by rw [hD, dgo_bad hfd hbg]; rfl, hM.toExt⟩
          ·
            have hbg : begB l (tkv b a n) n = true := by simpa using hC5
            have hn' := Pf.beg_lt (begB_t.1 hbg) hfd hn
            refine C.skip <| X.outN <| X.next <| C.region <| E.mv rfl rfl <| ?_
            refine E.add rfl rfl (by omega) rfl ?_

            refine E.asg rfl rfl <| E.nil <| X.again1 (n + 1) (Sub.cons rfl <| Sub.nil _) rfl ⟨hM, by omega, fun h => by rw [hD, dgo_end hfd hbg (by omega)], fun h => by rw [hD, dgo_on hfd hbg (by omega), hf2]⟩ (by omega)

set_option maxHeartbeats 2000000 in
theorem Decode_ret (p q : Value) (zs : List Int) (b : List Bool) (at_ : Int) (w : World) (hr : RdL i64 w p zs) (hq : RdL Value.bool w q b) :
    Ret Try.prog 44 #[p, q, i64 at_] w fun v w' => v = .tuple #[i64 ((dev zs b at_).1 : Int), i64 ((dev zs b at_).2.1 : Int), i64 (dev zs b at_).2.2] ∧ Ext w w' := by
  have hM := M.start w
  refine enter Try.func44 rfl (by kernel_rfl) Try.ntmps44 rfl ?_
  refine C.seq <| C.region <| E.asg rfl rfl <| E.asg rfl rfl <| E.asg rfl rfl <| E.nil <| X.next <| C.seq <| C.region <| E.mv rfl rfl <| ?_
  refine E.call rfl rfl (Codes_ret p zs _ (hM.arg0 hr)) ?_
  rintro _ w1 ⟨v15, rfl, m⟩
  have hM := hM.call m
  try dsimp only [List.nil_append, List.cons_append, List.set_cons_zero, List.set_cons_succ, repl] at hM
  refine E.mv rfl rfl <| E.ext rfl rfl rfl <| E.ext rfl rfl rfl <| E.asg rfl rfl <| E.asg rfl rfl <| E.nil <| X.next <| C.seq <| C.seq <| C.region <| E.mv rfl rfl <| E.bin rfl rfl rfl rfl <| E.nil <| X.next <| ?_
  refine C.cond' rfl (fun hC0 => ?_) (fun hC0 => ?_)
  ·
    refine C.seq <| C.region <| E.mv rfl rfl <| E.asg rfl rfl <| E.asg rfl rfl <| E.asg rfl rfl <| E.nil <| X.next <| C.ret <| X.retT <| ret3 rfl rfl rfl rfl ?_
    exact ⟨by rw [dev_bad hC0]; rfl, hM.toExt⟩
  ·
    have hck := Decidable.byContradiction hC0
    obtain ⟨hl4, hok, hkr⟩ := ckv_ok hck
    obtain ⟨hr', hb⟩ := ok_kr hr hok
    have hlz := toN_len zs
    rw [cdv, if_pos hck] at hM
    obtain ⟨l, hl⟩ : ∃ l, l = toN zs := ⟨_, rfl⟩
    rw [← hl] at hr' hb hkr hlz hM
    have hnl := nz_len l
    have hcl := cdl_len l
    have hbl := Rd.le hq
    have hod := Pf.od_le l
    refine C.skip <| X.next <| C.seq <| ?_

    refine C.chainE [(0, _), (1, _), (2, _), (7, _), (9, _)] rfl [(28, .bool (decide (at_ < 0 ∨ (b.length : Int) < at_)))] ?_ ?_
    ·
      refine C.region <| E.mv rfl rfl <| E.bin rfl rfl rfl rfl <| E.mv rfl rfl <| ?_
      refine E.split 23 rfl (fun g23 => ?_) (fun g23 => ?_)
      ·
        try simp only [decide_eq_true_eq, decide_eq_false_iff_not, ne_eq, Decidable.not_not, Bool.not_eq_true', Bool.not_eq_false'] at g23
        refine E.off rfl rfl rfl rfl <| E.off rfl rfl rfl rfl <| E.off rfl rfl rfl rfl <| E.off rfl rfl rfl rfl <| E.pick rfl rfl rfl <| E.nil <| X.join0 (Sub.cons (by (first | exact leaf_f (by omega) | exact leaf_t (by omega) | exact leaf_d (by omega) | exact leaf_f (by first | (simp [*] <;> fail) | omega) | exact leaf_t (by first | (simp [*] <;> fail) | omega) | exact leaf_d (by first | (simp [*] <;> fail) | omega) | exact leaf_f (by (first | omega | ((try simp only [decide_eq_true_eq, decide_eq_false_iff_not, Bool.not_eq_true', Bool.not_eq_false'] at *); first | omega | (simp_all <;> fail) | (simp_all; omega)))) | exact leaf_t (by (first | omega | ((try simp only [decide_eq_true_eq, decide_eq_false_iff_not, Bool.not_eq_true', Bool.not_eq_false'] at *); first | omega | (simp_all <;> fail) | (simp_all; omega)))) | exact leaf_d (by (first | omega | ((try simp only [decide_eq_true_eq, decide_eq_false_iff_not, Bool.not_eq_true', Bool.not_eq_false'] at *); first | omega | (simp_all <;> fail) | (simp_all; omega)))))) <| Sub.nil _) rfl rfl
      ·
        try simp only [decide_eq_true_eq, decide_eq_false_iff_not, ne_eq, Decidable.not_not, Bool.not_eq_true', Bool.not_eq_false'] at g23
        refine E.on rfl rfl (E.mv rfl rfl ?_)
        refine E.on rfl rfl (E.mv rfl rfl ?_)
        refine E.on rfl rfl (E.lenv rfl (Rd.shape (hM.arg0 hq)) Try.underlying76 rfl ?_)
        refine E.on rfl rfl (E.bin rfl rfl rfl rfl ?_)
        refine E.pick rfl rfl rfl <| E.nil <| X.join0 (Sub.cons (by (first | exact leaf_f (by omega) | exact leaf_t (by omega) | exact leaf_d (by omega) | exact leaf_f (by first | (simp [*] <;> fail) | omega) | exact leaf_t (by first | (simp [*] <;> fail) | omega) | exact leaf_d (by first | (simp [*] <;> fail) | omega) | exact leaf_f (by (first | omega | ((try simp only [decide_eq_true_eq, decide_eq_false_iff_not, Bool.not_eq_true', Bool.not_eq_false'] at *); first | omega | (simp_all <;> fail) | (simp_all; omega)))) | exact leaf_t (by (first | omega | ((try simp only [decide_eq_true_eq, decide_eq_false_iff_not, Bool.not_eq_true', Bool.not_eq_false'] at *); first | omega | (simp_all <;> fail) | (simp_all; omega)))) | exact leaf_d (by (first | omega | ((try simp only [decide_eq_true_eq, decide_eq_false_iff_not, Bool.not_eq_true', Bool.not_eq_false'] at *); first | omega | (simp_all <;> fail) | (simp_all; omega)))))) <| Sub.nil _) rfl rfl
    refine C.cond' rfl (fun hC1 => ?_) (fun hC1 => ?_)
    ·
      refine C.seq <| C.region <| E.asg rfl rfl <| E.asg rfl rfl <| E.asg rfl rfl <| E.nil <| X.next <| C.ret <| X.retT <| ret3 rfl rfl rfl rfl ?_
      exact ⟨by rw [dev_rng hck hC1]; rfl, hM.toExt⟩
    ·
      have hdv := dev_go (b := b) hck hC1
      rw [← hl] at hdv
      obtain ⟨a, rfl⟩ : ∃ a : Nat, at_ = (a : Int) := ⟨at_.toNat, by omega⟩
      rw [Int.toNat_natCast] at hdv
      have hab : a ≤ b.length := by omega
      refine C.skip <| X.next <| C.seq <| C.region <| E.mv rfl rfl <| ?_
      refine E.call rfl rfl (ordered_ret p l _ (hM.arg0 hr') hb (by omega)) ?_
      rintro v30 w2 m
      have hM := hM.call m
      try dsimp only [List.nil_append, List.cons_append, List.set_cons_zero, List.set_cons_succ, repl] at hM
      refine E.mv rfl rfl <| ?_
      refine E.call rfl rfl (kraft_ret p l _ (hM.arg0 hr') hb (by omega)) ?_
      rintro _ w3 ⟨rfl, x3⟩
      have hM := hM.ext x3
      have hv30 := hM.sl 1 rfl
      try dsimp only [List.nil_append, List.cons_append, List.set_cons_zero, List.set_cons_succ, repl] at hM
      refine E.asg rfl rfl <| E.asg rfl rfl <| E.nil <| X.next <| C.seq <| C.region <| E.asg rfl rfl <| E.nil <| X.next <| C.block <| ?_

      refine C.loop2 [(0, _), (1, _), (2, _), (9, _), (11, _)] rfl (fun (n : Nat) (vs : Value) => [(7, i64 n), (10, vs), (12, i64 (tkv b a n : Int))]) (fun (n : Nat) (vs : Value) w' => M w (Nn) w' [Rg.sl i64 3 v15 (Pf.cdl l)] ∧ RdL i64 w' vs (nz ((Pf.od l).drop (Pf.nx l n))) ∧ n ≤ 30 ∧ a + n ≤ b.length ∧ (∀ j, j < n → Pf.fnd l (tkv b a j) j = none) ∧ dev zs b a = dgo l b a (31 - n) n) (fun (n : Nat) (vs : Value) => 31 - n) 0 v30 ?_ ?_ ?_
      · exact Sub.cons rfl <| Sub.cons rfl <| Sub.cons (look_val rfl (by rw [tkv_zero]; rfl)) <| Sub.nil _
      · exact ⟨hM.pick [0] (by decide), hv30, by omega, by omega, fun j hj => by omega, hdv⟩
      rintro n vs w3 ⟨hM, hv0, hn, han, hno, hD⟩

      refine C.cut1 [(0, _), (1, _), (2, _), (9, _), (11, _)] rfl (fun (vs : Value) => [(7, i64 n), (10, vs), (12, i64 (tkv b a (n + 1) : Int))]) (fun (vs : Value) w' => M w (Nn) w' [Rg.sl i64 3 v15 (Pf.cdl l)] ∧ RdL i64 w' vs (nz ((Pf.od l).drop (Pf.nx l (n + 1)))) ∧ n < 30 ∧ a + (n + 1) ≤ b.length ∧ (∀ j, j < n + 1 → Pf.fnd l (tkv b a j) j = none) ∧ dev zs b a = dgo l b a (31 - (n + 1)) (n + 1)) ?_ ?_
      ·
        refine C.block <| C.seq <| C.block <| ?_
        obtain ⟨f, hf1, hf2⟩ := dgo_fuel (l := l) (b := b) (a := a) hn
        rw [hf1] at hD
        have htk := tkv_40 (b := b) (a := a) (n := n) (by omega) han
        have hx1 := Pf.nx_le (l := l) (show n + 1 ≤ 31 by omega)
        have hx2 : Pf.nx l n ≤ Pf.nx l (n + 1) := by rw [Pf.nx_succ]; omega

        refine C.loop2 [(0, _), (1, _), (2, _), (9, _), (11, _), (12, _)] rfl (fun (k : Nat) (vs : Value) => [(7, i64 n), (10, vs)]) (fun (k : Nat) (vs : Value) w' => M w (Nn) w' [Rg.sl i64 3 v15 (Pf.cdl l)] ∧ RdL i64 w' vs (nz ((Pf.od l).drop k)) ∧ Pf.nx l n ≤ k ∧ k ≤ Pf.nx l (n + 1) ∧ ∀ g, Pf.nx l n ≤ g → g < k → Pf.code l ((Pf.od l).getD g 0) < tkv b a n) (fun (k : Nat) (vs : Value) => (Pf.od l).length - k) (Pf.nx l n) vs ?_ ?_ ?_
        · exact Sub.cons rfl <| Sub.cons rfl <| Sub.nil _
        · exact ⟨hM, hv0, Nat.le_refl _, hx2, fun g h1 h2 => by omega⟩
        rintro k vs w4 ⟨hM, hv, hk1, hk2, hlow⟩
        refine C.seq <| ?_

        refine C.chainE [(0, _), (1, _), (2, _), (7, _), (9, _), (10, _), (11, _), (12, _)] rfl [(57, .bool (decide (k < (Pf.od l).length ∧ l.getD ((Pf.od l).getD k 0) 0 = n ∧ Pf.code l ((Pf.od l).getD k 0) ≤ tkv b a n)))] ?_ ?_
        ·
          refine C.region <| E.mv rfl rfl <| ?_
          refine E.lenv rfl (Rd.shape hv) Try.underlying67 rfl ?_
          rw [nz_len, List.length_drop]
          refine E.bin rfl rfl rfl rfl <| E.mv rfl rfl <| ?_
          refine E.split 38 rfl (fun g38 => ?_) (fun g38 => ?_)
          ·
            try simp only [decide_eq_true_eq, decide_eq_false_iff_not, ne_eq, Decidable.not_not, Bool.not_eq_true', Bool.not_eq_false'] at g38
            have hkl : k < (Pf.od l).length := by omega
            have hgk := Pf.getD_eq hkl
            have hsl : (Pf.od l).getD k 0 < l.length := by rw [hgk]; exact (Pf.od_mem.1 (List.getElem_mem hkl)).1
            have hgl := Pf.getD_eq hsl
            refine E.on rfl rfl (E.mv rfl rfl ?_)
            refine E.on rfl rfl (E.mv rfl rfl ?_)
            refine E.on rfl rfl (E.idx1 (k := 0) rfl rfl hv rfl (by rw [nz_len, List.length_drop]; omega) Try.underlying67 (by kernel_rfl) rfl ?_)
            refine E.on rfl rfl (E.load rfl Try.underlying3 rfl (hv.cell (by rw [nz_len, List.length_drop]; omega)) rfl ?_)
            rw [nz_drop]
            refine E.on rfl rfl (E.idx1 (k := ((Pf.od l).getD k 0)) rfl rfl (hM.arg0 hr') rfl (by omega) Try.underlying67 (by kernel_rfl) rfl ?_)
            refine E.on rfl rfl (E.load rfl Try.underlying3 rfl ((hM.arg0 hr').cell (by omega)) rfl ?_)
            rw [nz_get hsl, ← hgl]
            refine E.on rfl rfl (E.mv rfl rfl ?_)
            refine E.on rfl rfl (E.bin rfl rfl rfl rfl ?_)
            refine E.pick rfl rfl rfl <| E.mv rfl rfl <| ?_
            refine E.split 48 rfl (fun g48 => ?_) (fun g48 => ?_)
            ·
              try simp only [decide_eq_true_eq, decide_eq_false_iff_not, ne_eq, Decidable.not_not, Bool.not_eq_true', Bool.not_eq_false'] at g48
              refine E.on rfl rfl (E.mv rfl rfl ?_)
              refine E.on rfl rfl (E.mv rfl rfl ?_)
              refine E.on rfl rfl (E.idx1 (k := 0) rfl rfl hv rfl (by rw [nz_len, List.length_drop]; omega) Try.underlying67 (by kernel_rfl) rfl ?_)
              refine E.on rfl rfl (E.load rfl Try.underlying3 rfl (hv.cell (by rw [nz_len, List.length_drop]; omega)) rfl ?_)
              rw [nz_drop]
              refine E.on rfl rfl (E.idx1 (k := ((Pf.od l).getD k 0)) rfl rfl (hM.sl 0 rfl) rfl (by omega) Try.underlying67 (by kernel_rfl) rfl ?_)
              refine E.on rfl rfl (E.load rfl Try.underlying3 rfl ((hM.sl 0 rfl).cell (by omega)) rfl ?_)
              rw [cdl_get]
              refine E.on rfl rfl (E.mv rfl rfl ?_)
              refine E.on rfl rfl (E.bin rfl rfl rfl rfl ?_)
              refine E.pick rfl rfl rfl <| E.nil <| X.join0 (Sub.cons (by (first | exact leaf_f (by omega) | exact leaf_t (by omega) | exact leaf_d (by omega) | exact leaf_f (by first | (simp [*] <;> fail) | omega) | exact leaf_t (by first | (simp [*] <;> fail) | omega) | exact leaf_d (by first | (simp [*] <;> fail) | omega) | exact leaf_f (by (first | omega | ((try simp only [decide_eq_true_eq, decide_eq_false_iff_not, Bool.not_eq_true', Bool.not_eq_false'] at *); first | omega | (simp_all <;> fail) | (simp_all; omega)))) | exact leaf_t (by (first | omega | ((try simp only [decide_eq_true_eq, decide_eq_false_iff_not, Bool.not_eq_true', Bool.not_eq_false'] at *); first | omega | (simp_all <;> fail) | (simp_all; omega)))) | exact leaf_d (by (first | omega | ((try simp only [decide_eq_true_eq, decide_eq_false_iff_not, Bool.not_eq_true', Bool.not_eq_false'] at *); first | omega | (simp_all <;> fail) | (simp_all; omega)))))) <| Sub.nil _) rfl rfl
            ·
              try simp only [decide_eq_true_eq, decide_eq_false_iff_not, ne_eq, Decidable.not_not, Bool.not_eq_true', Bool.not_eq_false'] at g48
              refine E.off rfl rfl rfl rfl <| E.off rfl rfl rfl rfl <| E.off rfl rfl rfl rfl <| E.off rfl rfl rfl rfl <| E.off rfl rfl rfl rfl <| E.off rfl rfl rfl rfl <| E.off rfl rfl rfl rfl <| E.off rfl rfl rfl rfl <| E.pick rfl rfl rfl <| E.nil <| X.join0 (Sub.cons (by (first | exact leaf_f (by omega) | exact leaf_t (by omega) | exact leaf_d (by omega) | exact leaf_f (by first | (simp [*] <;> fail) | omega) | exact leaf_t (by first | (simp [*] <;> fail) | omega) | exact leaf_d (by first | (simp [*] <;> fail) | omega) | exact leaf_f (by (first | omega | ((try simp only [decide_eq_true_eq, decide_eq_false_iff_not, Bool.not_eq_true', Bool.not_eq_false'] at *); first | omega | (simp_all <;> fail) | (simp_all; omega)))) | exact leaf_t (by (first | omega | ((try simp only [decide_eq_true_eq, decide_eq_false_iff_not, Bool.not_eq_true', Bool.not_eq_false'] at *); first | omega | (simp_all <;> fail) | (simp_all; omega)))) | exact leaf_d (by (first | omega | ((try simp only [decide_eq_true_eq, decide_eq_false_iff_not, Bool.not_eq_true', Bool.not_eq_false'] at *); first | omega | (simp_all <;> fail) | (simp_all; omega)))))) <| Sub.nil _) rfl rfl
          ·
            try simp only [decide_eq_true_eq, decide_eq_false_iff_not, ne_eq, Decidable.not_not, Bool.not_eq_true', Bool.not_eq_false'] at g38
            refine E.off rfl rfl rfl rfl <| E.off rfl rfl rfl rfl <| E.off rfl rfl rfl rfl <| E.off rfl rfl rfl rfl <| E.off rfl rfl rfl rfl <| E.off rfl rfl rfl rfl <| E.off rfl rfl rfl rfl <| E.off rfl rfl rfl rfl <| E.pick rfl rfl rfl <| E.mv rfl rfl <| E.off rfl rfl rfl rfl <| E.off rfl rfl rfl rfl <| E.off rfl rfl rfl rfl <| E.off rfl rfl rfl rfl <| E.off rfl rfl rfl rfl <| E.off rfl rfl rfl rfl <| E.off rfl rfl rfl rfl <| E.off rfl rfl rfl rfl <| E.pick rfl rfl rfl <| E.nil <| X.join0 (Sub.cons (by (first | exact leaf_f (by omega) | exact leaf_t (by omega) | exact leaf_d (by omega) | exact leaf_f (by first | (simp [*] <;> fail) | omega) | exact leaf_t (by first | (simp [*] <;> fail) | omega) | exact leaf_d (by first | (simp [*] <;> fail) | omega) | exact leaf_f (by (first | omega | ((try simp only [decide_eq_true_eq, decide_eq_false_iff_not, Bool.not_eq_true', Bool.not_eq_false'] at *); first | omega | (simp_all <;> fail) | (simp_all; omega)))) | exact leaf_t (by (first | omega | ((try simp only [decide_eq_true_eq, decide_eq_false_iff_not, Bool.not_eq_true', Bool.not_eq_false'] at *); first | omega | (simp_all <;> fail) | (simp_all; omega)))) | exact leaf_d (by (first | omega | ((try simp only [decide_eq_true_eq, decide_eq_false_iff_not, Bool.not_eq_true', Bool.not_eq_false'] at *); first | omega | (simp_all <;> fail) | (simp_all; omega)))))) <| Sub.nil _) rfl rfl
        refine C.cond' rfl (fun hC2 => ?_) (fun hC2 => ?_)
        ·
          obtain ⟨hc1, hc2, hc3⟩ := hC2
          have hkl : k < (Pf.od l).length := by omega
          have hgk := Pf.getD_eq hkl
          have hsl : (Pf.od l).getD k 0 < l.length := by rw [hgk]; exact (Pf.od_mem.1 (List.getElem_mem hkl)).1
          have hgl := Pf.getD_eq hsl
          refine C.skip <| X.next <| C.block <| C.seq <| C.seq <| C.region <| E.mv rfl rfl <| E.mv rfl rfl <| ?_
          refine E.get (k := 0) rfl rfl hv rfl (by rw [nz_len, List.length_drop]; omega) Try.underlying67 (by kernel_rfl) Try.underlying3 rfl rfl rfl ?_
          rw [nz_drop]
          refine E.get (k := ((Pf.od l).getD k 0)) rfl rfl (hM.sl 0 rfl) rfl (by omega) Try.underlying67 (by kernel_rfl) Try.underlying3 rfl rfl rfl ?_
          rw [cdl_get]
          refine E.mv rfl rfl <| E.bin rfl rfl rfl rfl <| E.nil <| X.next <| ?_
          refine C.cond' rfl (fun hC3 => ?_) (fun hC3 => ?_)
          ·
            have hfd := Pf.fnd_some (v := tkv b a n) (n := n) hb hsl (by have := (Pf.od_mem.1 (List.getElem_mem hkl)).2.1; rw [← hgk] at this; omega) hc2 (by omega)
            refine C.seq <| C.region <| E.mv rfl rfl <| ?_
            refine E.get (k := 0) rfl rfl hv rfl (by rw [nz_len, List.length_drop]; omega) Try.underlying67 (by kernel_rfl) Try.underlying3 rfl rfl rfl ?_
            rw [nz_drop]
            refine E.mv rfl rfl <| E.asg rfl rfl <| E.asg rfl rfl <| E.asg rfl rfl <| E.nil <| X.next <| C.ret <| X.retT <| X.retB <| X.retT <| X.retB <| X.retT <| X.retB <| X.retT <| X.retT <| X.retB <| ret3 rfl rfl rfl rfl ?_
            exact ⟨by rw [hD, dgo_found hfd], hM.toExt⟩
          ·
            refine C.skip <| X.next <| C.region <| E.mv rfl rfl <| ?_
            refine E.slcP (k' := .i64) 1 _ rfl (.inl rfl) (.inr ⟨rfl, rfl⟩) hv Try.underlying67 (by kernel_rfl) (by rw [nz_len, List.length_drop]; omega) (Nat.le_refl _) rfl ?_

            refine E.asg rfl rfl <| E.nil <| X.outN <| X.again2 (k + 1) _ (Sub.cons rfl <| Sub.cons rfl <| Sub.nil _) rfl ⟨hM, rest_part hv hkl, by omega, by have := (Pf.place_eq hkl hn hk1).2 hc2; omega, fun g h1 h2 => by by_cases e : g = k; subst e; omega; exact hlow g h1 (by omega)⟩ (by omega)
        ·
          have hfd := Pf.scan_none hn hk1 hlow hC2
          have hnon := non_of (l := l) han (fun j hj => by by_cases e : j = n; subst e; exact hfd; exact hno j (by omega))
          have hbi := Pf.beg_iff hb hn hnon
          have hvb : tkv b a n * 2 ^ (30 - n) ≤ 1152921504606846976 := by
            have h1 := tkv_lt han
            have h2 : tkv b a n * 2 ^ (30 - n) ≤ 2 ^ n * 2 ^ (30 - n) := Nat.mul_le_mul_right _ (Nat.le_of_lt h1)
            rw [← Nat.pow_add, show n + (30 - n) = 30 by omega] at h2
            omega
          refine C.exit <| X.exitT <| X.exitT <| X.outE <| X.next <| C.seq <| C.seq <| C.region <| E.mv rfl rfl <| E.mv rfl rfl <| ?_
          refine E.subN (a := 30) (b := n) rfl rfl (by omega) rfl ?_
          refine E.shl rfl rfl (by omega) (shl_nat (by omega) rfl (by omega)) rfl ?_
          refine E.mv rfl rfl <| E.bin rfl rfl rfl rfl <| E.nil <| X.next <| ?_
          refine C.cond' rfl (fun hC4 => ?_) (fun hC4 => ?_)
          ·
            have hbg : begB l (tkv b a n) n = false := begB_f.2 fun hB => by have := hbi.1 hB; omega
            refine C.seq <| C.region <| E.asg rfl rfl <| E.asg rfl rfl <| E.asg rfl rfl <| E.nil <| X.next <| C.ret <| X.retT <| X.retB <| X.retT <| X.retT <| X.retB <| ret3 rfl rfl rfl rfl ?_
            exact ⟨by rw [hD, dgo_bad hfd hbg]; rfl, hM.toExt⟩
          ·
            have hbg : begB l (tkv b a n) n = true := begB_t.2 (hbi.2 (by omega))
            have hn' := Pf.beg_lt (begB_t.1 hbg) hfd hn
            refine C.skip <| X.next <| C.seq <| C.block <| ?_

            refine C.loop2 [(0, _), (1, _), (2, _), (7, _), (9, _), (11, _), (12, _)] rfl (fun (k : Nat) (vs : Value) => [(10, vs)]) (fun (k : Nat) (vs : Value) w' => M w (Nn) w' [Rg.sl i64 3 v15 (Pf.cdl l)] ∧ RdL i64 w' vs (nz ((Pf.od l).drop k)) ∧ Pf.nx l n ≤ k ∧ k ≤ Pf.nx l (n + 1)) (fun (k : Nat) (vs : Value) => (Pf.od l).length - k) k vs ?_ ?_ ?_
            · exact Sub.cons rfl <| Sub.nil _
            · exact ⟨hM, hv, hk1, hk2⟩
            rintro k vs w5 ⟨hM, hv, hk1, hk2⟩
            refine C.seq <| ?_

            refine C.chainE [(0, _), (1, _), (2, _), (7, _), (9, _), (10, _), (11, _), (12, _)] rfl [(90, .bool (decide (k < (Pf.od l).length ∧ l.getD ((Pf.od l).getD k 0) 0 = n)))] ?_ ?_
            ·
              refine C.region <| E.mv rfl rfl <| ?_
              refine E.lenv rfl (Rd.shape hv) Try.underlying67 rfl ?_
              rw [nz_len, List.length_drop]
              refine E.bin rfl rfl rfl rfl <| E.mv rfl rfl <| ?_
              refine E.split 81 rfl (fun g81 => ?_) (fun g81 => ?_)
              ·
                try simp only [decide_eq_true_eq, decide_eq_false_iff_not, ne_eq, Decidable.not_not, Bool.not_eq_true', Bool.not_eq_false'] at g81
                have hkl : k < (Pf.od l).length := by omega
                have hgk := Pf.getD_eq hkl
                have hsl : (Pf.od l).getD k 0 < l.length := by rw [hgk]; exact (Pf.od_mem.1 (List.getElem_mem hkl)).1
                have hgl := Pf.getD_eq hsl
                refine E.on rfl rfl (E.mv rfl rfl ?_)
                refine E.on rfl rfl (E.mv rfl rfl ?_)
                refine E.on rfl rfl (E.idx1 (k := 0) rfl rfl hv rfl (by rw [nz_len, List.length_drop]; omega) Try.underlying67 (by kernel_rfl) rfl ?_)
                refine E.on rfl rfl (E.load rfl Try.underlying3 rfl (hv.cell (by rw [nz_len, List.length_drop]; omega)) rfl ?_)
                rw [nz_drop]
                refine E.on rfl rfl (E.idx1 (k := ((Pf.od l).getD k 0)) rfl rfl (hM.arg0 hr') rfl (by omega) Try.underlying67 (by kernel_rfl) rfl ?_)
                refine E.on rfl rfl (E.load rfl Try.underlying3 rfl ((hM.arg0 hr').cell (by omega)) rfl ?_)
                rw [nz_get hsl, ← hgl]
                refine E.on rfl rfl (E.mv rfl rfl ?_)
                refine E.on rfl rfl (E.bin rfl rfl rfl rfl ?_)
                refine E.pick rfl rfl rfl <| E.nil <| X.join0 (Sub.cons (by (first | exact leaf_f (by omega) | exact leaf_t (by omega) | exact leaf_d (by omega) | exact leaf_f (by first | (simp [*] <;> fail) | omega) | exact leaf_t (by first | (simp [*] <;> fail) | omega) | exact leaf_d (by first | (simp [*] <;> fail) | omega) | exact leaf_f (by (first | omega | ((try simp only [decide_eq_true_eq, decide_eq_false_iff_not, Bool.not_eq_true', Bool.not_eq_false'] at *); first | omega | (simp_all <;> fail) | (simp_all; omega)))) | exact leaf_t (by (first | omega | ((try simp only [decide_eq_true_eq, decide_eq_false_iff_not, Bool.not_eq_true', Bool.not_eq_false'] at *); first | omega | (simp_all <;> fail) | (simp_all; omega)))) | exact leaf_d (by (first | omega | ((try simp only [decide_eq_true_eq, decide_eq_false_iff_not, Bool.not_eq_true', Bool.not_eq_false'] at *); first | omega | (simp_all <;> fail) | (simp_all; omega)))))) <| Sub.nil _) rfl rfl
              ·
                try simp only [decide_eq_true_eq, decide_eq_false_iff_not, ne_eq, Decidable.not_not, Bool.not_eq_true', Bool.not_eq_false'] at g81
                refine E.off rfl rfl rfl rfl <| E.off rfl rfl rfl rfl <| E.off rfl rfl rfl rfl <| E.off rfl rfl rfl rfl <| E.off rfl rfl rfl rfl <| E.off rfl rfl rfl rfl <| E.off rfl rfl rfl rfl <| E.off rfl rfl rfl rfl <| E.pick rfl rfl rfl <| E.nil <| X.join0 (Sub.cons (by (first | exact leaf_f (by omega) | exact leaf_t (by omega) | exact leaf_d (by omega) | exact leaf_f (by first | (simp [*] <;> fail) | omega) | exact leaf_t (by first | (simp [*] <;> fail) | omega) | exact leaf_d (by first | (simp [*] <;> fail) | omega) | exact leaf_f (by (first | omega | ((try simp only [decide_eq_true_eq, decide_eq_false_iff_not, Bool.not_eq_true', Bool.not_eq_false'] at *); first | omega | (simp_all <;> fail) | (simp_all; omega)))) | exact leaf_t (by (first | omega | ((try simp only [decide_eq_true_eq, decide_eq_false_iff_not, Bool.not_eq_true', Bool.not_eq_false'] at *); first | omega | (simp_all <;> fail) | (simp_all; omega)))) | exact leaf_d (by (first | omega | ((try simp only [decide_eq_true_eq, decide_eq_false_iff_not, Bool.not_eq_true', Bool.not_eq_false'] at *); first | omega | (simp_all <;> fail) | (simp_all; omega)))))) <| Sub.nil _) rfl rfl
            refine C.cond' rfl (fun hC5 => ?_) (fun hC5 => ?_)
            ·
              obtain ⟨hkl, hc2⟩ := hC5
              refine C.skip <| X.next <| C.block <| C.region <| E.mv rfl rfl <| ?_
              refine E.slcP (k' := .i64) 1 _ rfl (.inl rfl) (.inr ⟨rfl, rfl⟩) hv Try.underlying67 (by kernel_rfl) (by rw [nz_len, List.length_drop]; omega) (Nat.le_refl _) rfl ?_

              refine E.asg rfl rfl <| E.nil <| X.outN <| X.again2 (k + 1) _ (Sub.cons rfl <| Sub.nil _) rfl ⟨hM, rest_part hv hkl, by omega, by have := (Pf.place_eq hkl hn hk1).2 hc2; omega⟩ (by omega)
            ·
              obtain rfl : k = Pf.nx l (n + 1) := by
                by_cases e : k = Pf.nx l (n + 1)
                · exact e
                · exact (hC5 ⟨by omega, (Pf.place_eq (by omega) hn hk1).1 (by omega)⟩).elim
              refine C.exit <| X.exitT <| X.exitT <| X.outE <| X.next <| C.seq <| C.seq <| C.region <| E.mv rfl rfl <| E.mv rfl rfl <| ?_
              refine E.addN rfl rfl (by omega) rfl ?_
              refine E.mv rfl rfl <| ?_
              refine E.lenv rfl (Rd.shape (hM.arg0 hq)) Try.underlying76 rfl ?_
              refine E.bin rfl rfl rfl rfl <| E.nil <| X.next <| ?_
              refine C.cond' rfl (fun hC6 => ?_) (fun hC6 => ?_)
              ·
                refine C.seq <| C.region <| E.asg rfl rfl <| E.asg rfl rfl <| E.asg rfl rfl <| E.nil <| X.next <| C.ret <| X.retT <| X.retB <| X.retT <| X.retT <| X.retB <| ret3 rfl rfl rfl rfl ?_
                exact ⟨by rw [hD, dgo_end hfd hbg (by omega)]; rfl, hM.toExt⟩
              ·
                have hts := tkv_succ (b := b) (a := a) (n := n) (by omega)
                refine C.skip <| X.next <| C.seq <| C.region <| E.mv rfl rfl <| ?_
                refine E.shl rfl rfl (by omega) (shl_nat (k := 1) (c := 2 * tkv b a n) (by omega) (by omega) (by omega)) rfl ?_
                refine E.asg rfl rfl <| E.nil <| X.next <| C.seq <| C.region <| E.mv rfl rfl <| E.mv rfl rfl <| E.mv rfl rfl <| ?_
                refine E.addN rfl rfl (by omega) rfl ?_
                refine E.get (k := (a + n)) rfl rfl (hM.arg0 hq) rfl (by omega) Try.underlying76 (by kernel_rfl) Try.underlying4 rfl rfl rfl ?_
                refine E.nil <| X.next <| ?_
                refine C.cond rfl (fun hC7 => ?_) (fun hC7 => ?_)
                ·
                  refine C.region <| E.mv rfl rfl <| ?_
                  refine E.addN (b := 1) rfl rfl (by omega) rfl ?_

                  refine E.asg rfl rfl <| E.nil <| X.outN <| X.join1 _ (Sub.cons rfl <| Sub.cons rfl <| Sub.cons (look_val rfl (by rw [hts, if_pos hC7])) <| Sub.nil _) rfl ⟨hM, hv, hn', by omega, fun j hj => by by_cases e : j = n; subst e; exact hfd; exact hno j (by omega), by rw [hD, dgo_on hfd hbg (by omega), hf2]⟩
                ·

                  refine C.skip <| X.outN <| X.join1 _ (Sub.cons rfl <| Sub.cons rfl <| Sub.cons (look_val rfl (by rw [hts, if_neg (by rw [hC7]; decide)]; rfl)) <| Sub.nil _) rfl ⟨hM, hv, hn', by omega, fun j hj => by by_cases e : j = n; subst e; exact hfd; exact hno j (by omega), by rw [hD, dgo_on hfd hbg (by omega), hf2]⟩
      rintro vs w6 ⟨hM, hv, hn', han', hno', hD'⟩
      refine C.region <| E.mv rfl rfl <| ?_
      refine E.addN (b := 1) rfl rfl (by omega) rfl ?_

      refine E.asg rfl rfl <| E.nil <| X.again2 (n + 1) _ (Sub.cons rfl <| Sub.cons rfl <| Sub.cons rfl <| Sub.nil _) rfl ⟨hM, hv, by omega, han', hno', hD'⟩ (by omega)

end Go.Proofs.Ytdcgmkoonanpgaa
