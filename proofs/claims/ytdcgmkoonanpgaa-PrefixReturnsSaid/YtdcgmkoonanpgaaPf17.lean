/- PrefixReturns. -/
import Derived.Test.YtdcgmkoonanpgaaPf14
namespace Go.Proofs.Ytdcgmkoonanpgaa
set_option linter.unusedSimpArgs false
set_option linter.unusedVariables false
open Go.RowKit Sym

/-- bits make their number -/
theorem btv_take {c n : Nat} (hc : c < 2 ^ n) : ∀ {j : Nat}, j ≤ n → bvl ((btv c n).take j) = c / 2 ^ (n - j) := by
  intro j
  induction j with
  | zero => intro _; rw [Nat.sub_zero, Nat.div_eq_of_lt hc]; rfl
  | succ j ih =>
    intro hj
    have h1 := ih (by omega)
    have hl : j < (btv c n).length := by rw [btv_len]; omega
    have hg : (btv c n)[j] = bt c n j := by simp [btv, tab]
    unfold bvl at h1 ⊢
    rw [← List.take_append_getElem hl, List.foldl_append, h1, hg]
    show 2 * (c / 2 ^ (n - j)) + (if bt c n j = true then 1 else 0) = _
    have e : c / 2 ^ (n - j) = c / 2 ^ (n - (j + 1)) / 2 := by rw [Nat.div_div_eq_div_mul, ← Nat.pow_succ]; congr 2; omega
    have e2 : n - 1 - j = n - (j + 1) := by omega
    rw [e]
    unfold bt
    rw [e2]
    by_cases h : c / 2 ^ (n - (j + 1)) % 2 = 1
    · rw [if_pos (by simpa using h)]; omega
    · rw [if_neg (by simpa using h)]; omega
theorem tkv_bits {b r : List Bool} {a c n j : Nat} (hb : b.drop a = btv c n ++ r) (hc : c < 2 ^ n) (hj : j ≤ n) : tkv b a j = c / 2 ^ (n - j) := by
  unfold tkv
  rw [hb, List.take_append_of_le_length (by rw [btv_len]; omega)]
  exact btv_take hc hj
/-- the bits of a symbol are its own -/
theorem dgo_sym {l : List Nat} {b r : List Bool} {a s : Nat} (hb30 : ∀ n ∈ l, n ≤ 30) (hkr : Pf.kr l ≤ 1073741824) (hs : s < l.length) (h0 : 1 ≤ l.getD s 0) (hb : b.drop a = btv (Pf.code l s) (l.getD s 0) ++ r) : dgo l b a 31 0 = (s, l.getD s 0, 0) := by
  have hso : s ∈ Pf.od l := Pf.od_mem.2 ⟨hs, h0, by have := hb30 l[s] (List.getElem_mem hs); rw [Pf.getD_eq hs]; exact this⟩
  have h30 := (Pf.od_mem.1 hso).2.2
  have hc := Pf.code_lt hb30 hkr hso
  have hlen : a + l.getD s 0 ≤ b.length := by
    have := congrArg List.length hb
    rw [List.length_drop, List.length_append, btv_len] at this; omega
  have key : ∀ k j, j + k = l.getD s 0 → dgo l b a (31 - j) j = (s, l.getD s 0, 0) := by
    intro k
    induction k with
    | zero =>
      intro j hj
      obtain ⟨f, hf, _⟩ := dgo_fuel (l := l) (b := b) (a := a) (show j ≤ 30 by omega)
      have ht := tkv_bits hb hc (show j ≤ l.getD s 0 by omega)
      rw [show l.getD s 0 - j = 0 by omega, Nat.pow_zero, Nat.div_one] at ht
      rw [hf, dgo_found (i := s) (Pf.fnd_some hb30 hs (by omega) (by omega) ht.symm)]
      rw [show j = l.getD s 0 by omega]
    | succ k ih =>
      intro j hj
      obtain ⟨f, hf, hf2⟩ := dgo_fuel (l := l) (b := b) (a := a) (show j ≤ 30 by omega)
      have ht := tkv_bits hb hc (show j ≤ l.getD s 0 by omega)
      rw [hf, dgo_on (Pf.fnd_none.2 fun i hi ⟨g0, g1, g2⟩ => ?_) (begB_t.2 ⟨s, hso, by omega, ht.symm⟩) (by omega), ← hf2]
      · exact ih (j + 1) (by omega)
      · have hio : i ∈ Pf.od l := Pf.od_mem.2 ⟨hi, by omega, by omega⟩
        have := Pf.front_lt hio hso (by omega) (.inl (by omega))
        rw [g1, g2, ht] at this; omega
  have := key (l.getD s 0) 0 (by omega)
  exact this
/-- the bits of symbols -/
noncomputable def ebits (l : List Nat) (ss : List Int) : List Bool := ss.flatMap fun s => btv (Pf.code l s.toNat) (l.getD s.toNat 0)
theorem ecv_bad {l : List Nat} : ∀ (ss : List Int) (b : List Bool), ¬ (ecv l b ss).2 = 0 → (ecv l b ss).1 = []
  | [], b, h => by rw [ecv] at h; exact (h rfl).elim
  | s :: ss, b, h => by
    rw [ecv] at h ⊢
    split
    · rfl
    · split
      · rfl
      · split
        · rfl
        · rw [if_neg ‹_›, if_neg ‹_›, if_neg ‹_›] at h; exact ecv_bad ss _ h
theorem ecv_fine {l : List Nat} : ∀ (ss : List Int) (b : List Bool), (ecv l b ss).2 = 0 → (ecv l b ss).1 = b ++ ebits l ss ∧ ∀ s ∈ ss, 0 ≤ s ∧ s < (l.length : Int) ∧ 1 ≤ l.getD s.toNat 0
  | [], b, h => ⟨by rw [ecv]; simp [ebits], fun s hs => by simp at hs⟩
  | s :: ss, b, h => by
    rw [ecv] at h ⊢
    by_cases h1 : s < 0 ∨ (l.length : Int) ≤ s
    · rw [if_pos h1] at h; exact absurd h (by show ¬ (3 : Int) = 0; decide)
    · rw [if_neg h1] at h ⊢
      by_cases h2 : l.getD s.toNat 0 = 0
      · rw [if_pos h2] at h; exact absurd h (by show ¬ (29 : Int) = 0; decide)
      · rw [if_neg h2] at h ⊢
        by_cases h3 : 1048576 < b.length + l.getD s.toNat 0
        · rw [if_pos h3] at h; exact absurd h (by show ¬ (4 : Int) = 0; decide)
        · rw [if_neg h3] at h ⊢
          obtain ⟨k1, k2⟩ := ecv_fine ss _ h
          refine ⟨by rw [k1]; simp [ebits], fun y hy => ?_⟩
          rcases List.mem_cons.1 hy with rfl | hy
          · omega
          · exact k2 y hy
theorem ebits_at {l : List Nat} {ss : List Int} {i : Nat} (hi : i < ss.length) : (ebits l ss).drop (ebits l (ss.take i)).length = btv (Pf.code l ss[i].toNat) (l.getD ss[i].toNat 0) ++ ebits l (ss.drop (i + 1)) ∧ (ebits l (ss.take (i + 1))).length = (ebits l (ss.take i)).length + l.getD ss[i].toNat 0 := by
  constructor
  · have e : ss = ss.take i ++ ss[i] :: ss.drop (i + 1) := by rw [← List.drop_eq_getElem_cons hi, List.take_append_drop]
    have : ebits l ss = ebits l (ss.take i) ++ (btv (Pf.code l ss[i].toNat) (l.getD ss[i].toNat 0) ++ ebits l (ss.drop (i + 1))) := by
      conv => lhs; rw [e]
      unfold ebits
      rw [List.flatMap_append, List.flatMap_cons]
    rw [this, List.drop_left]
  · rw [← List.take_append_getElem hi]
    unfold ebits
    rw [List.flatMap_append, List.length_append]
    simp [btv_len]
theorem env_nil {zs ss : List Int} (h : ¬ (env zs ss).2 = 0) : (env zs ss).1 = [] := by
  by_cases hc : ckv zs = 0
  · rw [env_ok hc] at h ⊢; exact ecv_bad ss [] h
  · rw [env_bad hc]
theorem env_fine {zs ss : List Int} (h : (env zs ss).2 = 0) : ckv zs = 0 ∧ (env zs ss).1 = ebits (toN zs) ss ∧ ∀ s ∈ ss, 0 ≤ s ∧ s < ((toN zs).length : Int) ∧ 1 ≤ (toN zs).getD s.toNat 0 := by
  by_cases hc : ckv zs = 0
  · rw [env_ok hc] at h ⊢
    have := ecv_fine ss [] h
    exact ⟨hc, by rw [this.1, List.nil_append], this.2⟩
  · rw [env_bad hc] at h; exact (hc h).elim
set_option maxHeartbeats 1000000 in
theorem PrefixReturns_ret (p : Value) (zs : List Int) (q : Value) (ss : List Int) (w : World) (hr : RdL i64 w p zs) (hq : RdL i64 w q ss) :
    Ret Try.prog 12 #[p, q] w fun v w' => v = .bool true ∧ Ext w w' := by
  have hM := M.start w
  refine enter Try.func12 rfl (by kernel_rfl) Try.ntmps12 rfl ?_
  refine C.seq <| C.region <| E.asg rfl rfl <| E.nil <| X.next <| C.seq <| ?_

  refine C.chainE [(0, _), (1, _)] rfl [(19, .bool (decide (200 < zs.length ∨ 200 < ss.length)))] ?_ ?_
  ·
    refine C.region <| E.mv rfl rfl <| ?_
    refine E.lenv rfl (Rd.shape (hM.arg0 hr)) Try.underlying67 rfl ?_
    refine E.bin rfl rfl rfl rfl <| E.mv rfl rfl <| ?_
    refine E.split 15 rfl (fun g15 => ?_) (fun g15 => ?_)
    ·
      try simp only [decide_eq_true_eq, decide_eq_false_iff_not, ne_eq, Decidable.not_not, Bool.not_eq_true', Bool.not_eq_false'] at g15
      refine E.off rfl rfl rfl rfl <| E.off rfl rfl rfl rfl <| E.off rfl rfl rfl rfl <| E.pick rfl rfl rfl <| E.nil <| X.join0 (Sub.cons (by (first | exact leaf_f (by omega) | exact leaf_t (by omega) | exact leaf_d (by omega) | exact leaf_f (by first | (simp [*] <;> fail) | omega) | exact leaf_t (by first | (simp [*] <;> fail) | omega) | exact leaf_d (by first | (simp [*] <;> fail) | omega) | exact leaf_f (by (first | omega | ((try simp only [decide_eq_true_eq, decide_eq_false_iff_not, Bool.not_eq_true', Bool.not_eq_false'] at *); first | omega | (simp_all <;> fail) | (simp_all; omega)))) | exact leaf_t (by (first | omega | ((try simp only [decide_eq_true_eq, decide_eq_false_iff_not, Bool.not_eq_true', Bool.not_eq_false'] at *); first | omega | (simp_all <;> fail) | (simp_all; omega)))) | exact leaf_d (by (first | omega | ((try simp only [decide_eq_true_eq, decide_eq_false_iff_not, Bool.not_eq_true', Bool.not_eq_false'] at *); first | omega | (simp_all <;> fail) | (simp_all; omega)))))) <| Sub.nil _) rfl rfl
    ·
      try simp only [decide_eq_true_eq, decide_eq_false_iff_not, ne_eq, Decidable.not_not, Bool.not_eq_true', Bool.not_eq_false'] at g15
      refine E.on rfl rfl (E.mv rfl rfl ?_)
      refine E.on rfl rfl (E.lenv rfl (Rd.shape (hM.arg0 hq)) Try.underlying67 rfl ?_)
      refine E.on rfl rfl (E.bin rfl rfl rfl rfl ?_)
      refine E.pick rfl rfl rfl <| E.nil <| X.join0 (Sub.cons (by (first | exact leaf_f (by omega) | exact leaf_t (by omega) | exact leaf_d (by omega) | exact leaf_f (by first | (simp [*] <;> fail) | omega) | exact leaf_t (by first | (simp [*] <;> fail) | omega) | exact leaf_d (by first | (simp [*] <;> fail) | omega) | exact leaf_f (by (first | omega | ((try simp only [decide_eq_true_eq, decide_eq_false_iff_not, Bool.not_eq_true', Bool.not_eq_false'] at *); first | omega | (simp_all <;> fail) | (simp_all; omega)))) | exact leaf_t (by (first | omega | ((try simp only [decide_eq_true_eq, decide_eq_false_iff_not, Bool.not_eq_true', Bool.not_eq_false'] at *); first | omega | (simp_all <;> fail) | (simp_all; omega)))) | exact leaf_d (by (first | omega | ((try simp only [decide_eq_true_eq, decide_eq_false_iff_not, Bool.not_eq_true', Bool.not_eq_false'] at *); first | omega | (simp_all <;> fail) | (simp_all; omega)))))) <| Sub.nil _) rfl rfl
  refine C.cond' rfl (fun hC0 => ?_) (fun hC0 => ?_)
  ·
    refine C.seq <| C.region <| ?_
    refine E.call rfl rfl (alive_ret _) ?_
    rintro _ wz ⟨rfl, xz⟩
    have hM := hM.ext xz
    try dsimp only [List.nil_append, List.cons_append, List.set_cons_zero, List.set_cons_succ, repl] at hM
    refine E.asg rfl rfl <| E.nil <| X.next <| C.ret <| X.retT <| ret1 rfl rfl ?_
    exact ⟨rfl, hM.toExt⟩
  ·
    refine C.skip <| X.next <| C.seq <| C.region <| E.mv rfl rfl <| E.mv rfl rfl <| ?_
    refine E.call rfl rfl (Encode_ret p q zs ss _ (hM.arg0 hr) (hM.arg0 hq)) ?_
    rintro _ w1 ⟨v24, rfl, m⟩
    have hM := hM.call m
    try dsimp only [List.nil_append, List.cons_append, List.set_cons_zero, List.set_cons_succ, repl] at hM
    refine E.mv rfl rfl <| E.ext rfl rfl rfl <| E.ext rfl rfl rfl <| E.asg rfl rfl <| E.asg rfl rfl <| E.nil <| X.next <| C.seq <| C.seq <| C.region <| E.mv rfl rfl <| E.bin rfl rfl rfl rfl <| E.nil <| X.next <| ?_
    refine C.cond' rfl (fun hC1 => ?_) (fun hC1 => ?_)
    ·
      rw [env_nil hC1] at hM

      refine C.cut0 [] rfl [(4, .bool true)] (fun w' => M w (Nn) w' []) ?_ ?_
      ·
        refine C.region <| E.mv rfl rfl <| ?_
        refine E.lenv rfl (Rd.shape (hM.sl 0 rfl)) Try.underlying76 rfl ?_
        refine E.bin rfl rfl rfl rfl <| E.mv rfl rfl <| ?_
        refine E.split 32 rfl (fun g32 => ?_) (fun g32 => ?_)
        ·
          try simp only [decide_eq_true_eq, decide_eq_false_iff_not, ne_eq, Decidable.not_not, Bool.not_eq_true', Bool.not_eq_false'] at g32
          refine E.on rfl rfl (E.call rfl rfl (alive_ret _) ?_)
          rintro _ wz ⟨rfl, xz⟩
          have hM := hM.ext xz
          try dsimp only [List.nil_append, List.cons_append, List.set_cons_zero, List.set_cons_succ, repl] at hM

          refine E.pick rfl rfl rfl <| E.asg rfl rfl <| E.nil <| X.join0  (Sub.cons rfl <| Sub.nil _) rfl (hM.pick [] (by decide))
        ·
          try simp only [decide_eq_true_eq, decide_eq_false_iff_not, ne_eq, Decidable.not_not, Bool.not_eq_true', Bool.not_eq_false'] at g32
          first | exact absurd g32 (by decide) | exact (g32 rfl).elim | exact (g32 trivial).elim | omega
      rintro  w3 hM
      refine C.ret <| X.retT <| ret1 rfl rfl ?_
      exact ⟨rfl, hM.toExt⟩
    ·
      obtain ⟨hck, heb, hall⟩ := env_fine (Decidable.byContradiction hC1)
      rw [heb] at hM
      obtain ⟨hl4, hok, hkr⟩ := ckv_ok hck
      obtain ⟨hr', hb⟩ := ok_kr hr hok
      have hlz := toN_len zs
      obtain ⟨l, hl⟩ : ∃ l, l = toN zs := ⟨_, rfl⟩
      rw [← hl] at hr' hb hkr hlz hM hall
      have hnl := nz_len l
      refine C.skip <| X.next <| C.seq <| C.region <| E.asg rfl rfl <| E.nil <| X.next <| C.seq <| C.seq <| C.region <| E.mv rfl rfl <| ?_
      refine E.lenv rfl (Rd.shape (hM.arg0 hq)) Try.underlying67 rfl ?_
      refine E.mv rfl rfl <| E.nil <| X.next <| C.block <| ?_

      refine C.loop1 [(0, _), (1, _), (5, _), (36, _)] rfl (fun (i : Nat) => [(7, i64 ((ebits l (ss.take i)).length : Int)), (37, i64 i)]) (fun (i : Nat) w' => M w (Nn) w' [Rg.sl Value.bool 4 v24 (ebits l ss)] ∧ i ≤ ss.length) (fun (i : Nat) => ss.length - i) 0 ?_ ?_ ?_
      · exact Sub.cons rfl <| Sub.cons rfl <| Sub.nil _
      · exact ⟨hM, Nat.zero_le _⟩
      rintro i w4 ⟨hM, hi⟩
      refine C.seq <| C.region <| E.bin rfl rfl rfl rfl <| E.nil <| X.next <| C.seq <| ?_
      refine C.cond' rfl (fun hC2 => ?_) (fun hC2 => ?_)
      ·
        have hi' : i < ss.length := by omega
        obtain ⟨hs1, hs2, hs3⟩ := hall ss[i] (List.getElem_mem hi')
        obtain ⟨hd1, hd2⟩ := ebits_at (l := l) hi'
        obtain ⟨s, hs⟩ : ∃ s : Nat, ss[i] = (s : Int) := ⟨ss[i].toNat, by omega⟩
        rw [hs, Int.toNat_natCast] at hd1 hd2 hs3
        have hsl : s < l.length := by omega
        have hbl := Rd.le (hM.sl 0 rfl)
        have hal : (ebits l (ss.take i)).length + l.getD s 0 ≤ (ebits l ss).length := by
          have := congrArg List.length hd1
          rw [List.length_drop, List.length_append, btv_len] at this; omega
        have hdec : dev zs (ebits l ss) ((ebits l (ss.take i)).length : Int) = (s, l.getD s 0, 0) := by
          rw [dev_go hck (by omega), ← hl, Int.toNat_natCast]
          exact dgo_sym hb hkr hsl hs3 hd1
        have hgd := Pf.getD_eq hsl
        have hb30 := hb l[s] (List.getElem_mem hsl)
        refine C.skip <| X.next <| C.seq <| C.block <| C.seq <| C.region <| E.mv rfl rfl <| E.asg rfl rfl <| E.nil <| X.next <| C.seq <| C.region <| E.mv rfl rfl <| E.mv rfl rfl <| E.mv rfl rfl <| ?_
        refine E.call rfl rfl (Decode_ret p v24 zs _ _ _ (hM.arg0 hr) (hM.sl 0 rfl)) ?_
        rintro _ w3 ⟨rfl, x3⟩
        have hM := hM.ext x3
        rw [hdec, hgd]
        dsimp only
        try dsimp only [List.nil_append, List.cons_append, List.set_cons_zero, List.set_cons_succ, repl] at hM
        refine E.mv rfl rfl <| E.ext rfl rfl rfl <| E.ext rfl rfl rfl <| E.ext rfl rfl rfl <| E.asg rfl rfl <| E.asg rfl rfl <| E.asg rfl rfl <| E.nil <| X.next <| C.seq <| ?_

        refine C.chainE [(0, _), (1, _), (5, _), (7, _), (10, _), (36, _), (37, _)] rfl [(75, .bool false)] ?_ ?_
        ·
          refine C.region <| E.mv rfl rfl <| E.bin rfl rfl rfl rfl <| E.mv rfl rfl <| ?_
          refine E.split 50 rfl (fun g50 => ?_) (fun g50 => ?_)
          ·
            try simp only [decide_eq_true_eq, decide_eq_false_iff_not, ne_eq, Decidable.not_not, Bool.not_eq_true', Bool.not_eq_false'] at g50
            first | exact absurd g50 (by decide) | exact (g50 rfl).elim | exact (g50 trivial).elim | omega
          ·
            try simp only [decide_eq_true_eq, decide_eq_false_iff_not, ne_eq, Decidable.not_not, Bool.not_eq_true', Bool.not_eq_false'] at g50
            refine E.on rfl rfl (E.mv rfl rfl ?_)
            refine E.on rfl rfl (E.mv rfl rfl ?_)
            refine E.on rfl rfl (E.mv rfl rfl ?_)
            refine E.on rfl rfl (E.idx1 (k := i) rfl rfl (hM.arg0 hq) rfl (by omega) Try.underlying67 (by kernel_rfl) rfl ?_)
            refine E.on rfl rfl (E.load rfl Try.underlying3 rfl ((hM.arg0 hq).cell (by omega)) rfl ?_)
            rw [hs]
            refine E.on rfl rfl (E.bin rfl rfl rfl rfl ?_)
            refine E.pick rfl rfl rfl <| E.mv rfl rfl <| ?_
            refine E.split 58 rfl (fun g58 => ?_) (fun g58 => ?_)
            ·
              try simp only [decide_eq_true_eq, decide_eq_false_iff_not, ne_eq, Decidable.not_not, Bool.not_eq_true', Bool.not_eq_false'] at g58
              first | exact absurd g58 (by decide) | exact (g58 rfl).elim | exact (g58 trivial).elim | omega
            ·
              try simp only [decide_eq_true_eq, decide_eq_false_iff_not, ne_eq, Decidable.not_not, Bool.not_eq_true', Bool.not_eq_false'] at g58
              refine E.on rfl rfl (E.mv rfl rfl ?_)
              refine E.on rfl rfl (E.bin rfl rfl rfl rfl ?_)
              refine E.pick rfl rfl rfl <| E.mv rfl rfl <| ?_
              refine E.split 62 rfl (fun g62 => ?_) (fun g62 => ?_)
              ·
                try simp only [decide_eq_true_eq, decide_eq_false_iff_not, ne_eq, Decidable.not_not, Bool.not_eq_true', Bool.not_eq_false'] at g62
                first | exact absurd g62 (by decide) | exact (g62 rfl).elim | exact (g62 trivial).elim | omega
              ·
                try simp only [decide_eq_true_eq, decide_eq_false_iff_not, ne_eq, Decidable.not_not, Bool.not_eq_true', Bool.not_eq_false'] at g62
                refine E.on rfl rfl (E.mv rfl rfl ?_)
                refine E.on rfl rfl (E.mv rfl rfl ?_)
                refine E.on rfl rfl (E.lenv rfl (Rd.shape (hM.arg0 hr')) Try.underlying67 rfl ?_)
                rw [nz_len]
                refine E.on rfl rfl (E.bin rfl rfl rfl rfl ?_)
                refine E.pick rfl rfl rfl <| E.mv rfl rfl <| ?_
                refine E.split 68 rfl (fun g68 => ?_) (fun g68 => ?_)
                ·
                  try simp only [decide_eq_true_eq, decide_eq_false_iff_not, ne_eq, Decidable.not_not, Bool.not_eq_true', Bool.not_eq_false'] at g68
                  first | exact absurd g68 (by decide) | exact (g68 rfl).elim | exact (g68 trivial).elim | omega
                ·
                  try simp only [decide_eq_true_eq, decide_eq_false_iff_not, ne_eq, Decidable.not_not, Bool.not_eq_true', Bool.not_eq_false'] at g68
                  refine E.on rfl rfl (E.mv rfl rfl ?_)
                  refine E.on rfl rfl (E.mv rfl rfl ?_)
                  refine E.on rfl rfl (E.mv rfl rfl ?_)
                  refine E.on rfl rfl (E.idx1 (k := s) rfl rfl (hM.arg0 hr') rfl (by omega) Try.underlying67 (by kernel_rfl) rfl ?_)
                  refine E.on rfl rfl (E.load rfl Try.underlying3 rfl ((hM.arg0 hr').cell (by omega)) rfl ?_)
                  rw [nz_get hsl]
                  refine E.on rfl rfl (E.bin rfl rfl rfl rfl ?_)
                  refine E.pick rfl rfl rfl <| E.nil <| X.join0 (Sub.cons (look_eq rfl (by congr 1; apply decide_eq_false; omega)) <| Sub.nil _) rfl rfl
        refine C.cond rfl (fun hC3 => ?_) (fun hC3 => ?_)
        ·
          cases hC3
        ·
          refine C.skip <| X.next <| C.region <| E.mv rfl rfl <| E.mv rfl rfl <| ?_
          refine E.addN rfl rfl (by omega) rfl ?_
          refine E.asg rfl rfl <| E.nil <| X.outN <| X.next <| C.region <| ?_
          refine E.add rfl rfl (by omega) rfl ?_

          refine E.mv rfl rfl <| E.nil <| X.again1 (i + 1) (Sub.cons (look_val rfl (by rw [hd2, hgd])) <| Sub.cons rfl <| Sub.nil _) rfl ⟨hM, by omega⟩ (by omega)
      ·
        obtain rfl : i = ss.length := by omega
        rw [List.take_length]
        refine C.exit <| X.exitT <| X.exitT <| X.outE <| X.next <| ?_

        refine C.cut0 [] rfl [(4, .bool true)] (fun w' => M w (Nn) w' []) ?_ ?_
        ·
          refine C.region <| E.mv rfl rfl <| E.mv rfl rfl <| ?_
          refine E.lenv rfl (Rd.shape (hM.sl 0 rfl)) Try.underlying76 rfl ?_
          refine E.bin rfl rfl rfl rfl <| E.mv rfl rfl <| ?_
          refine E.split 84 rfl (fun g84 => ?_) (fun g84 => ?_)
          ·
            try simp only [decide_eq_true_eq, decide_eq_false_iff_not, ne_eq, Decidable.not_not, Bool.not_eq_true', Bool.not_eq_false'] at g84
            refine E.on rfl rfl (E.call rfl rfl (alive_ret _) ?_)
            rintro _ wz ⟨rfl, xz⟩
            have hM := hM.ext xz
            try dsimp only [List.nil_append, List.cons_append, List.set_cons_zero, List.set_cons_succ, repl] at hM

            refine E.pick rfl rfl rfl <| E.asg rfl rfl <| E.nil <| X.join0  (Sub.cons rfl <| Sub.nil _) rfl (hM.pick [] (by decide))
          ·
            try simp only [decide_eq_true_eq, decide_eq_false_iff_not, ne_eq, Decidable.not_not, Bool.not_eq_true', Bool.not_eq_false'] at g84
            first | exact absurd g84 (by decide) | exact (g84 rfl).elim | exact (g84 trivial).elim | omega
        rintro  w7 hM
        refine C.ret <| ret1 rfl rfl ?_
        exact ⟨rfl, hM.toExt⟩

end Go.Proofs.Ytdcgmkoonanpgaa
