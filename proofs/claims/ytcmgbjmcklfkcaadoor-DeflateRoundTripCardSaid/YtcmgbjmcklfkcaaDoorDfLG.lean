/- Deflate, as plain mathematics: what was compressed is restored; a limit; data that end too early. -/
import Derived.Test.YtcmgbjmcklfkcaaDoorDfKG
namespace Go.Proofs.YtcmgbjmcklfkcaaDoor
set_option linter.unusedSimpArgs false
set_option linter.unusedVariables false
open Sym
namespace Df
/-! two steps differ -/
theorem zer_mem {n : Nat} (h : 1 ≤ n) : ∃ x ∈ zer n, x.1 = 0 ∨ x.1 = 17 ∨ x.1 = 18 := by
  by_cases h1 : 11 ≤ n
  · rw [zer_big h1]; exact ⟨_, List.mem_cons_self, .inr (.inr rfl)⟩
  · by_cases h2 : 3 ≤ n
    · rw [zer_mid (by omega) h2]; exact ⟨_, List.mem_cons_self, .inr (.inl rfl)⟩
    · rw [zer_few (by omega)]
      obtain ⟨m, rfl⟩ : ∃ m, n = m + 1 := ⟨n - 1, by omega⟩
      rw [List.replicate_succ]; exact ⟨_, List.mem_cons_self, .inl rfl⟩
theorem ren_stop (l : List Nat) (v : Nat) : ∀ (f e : Nat), ren l v f e < e + f → ¬ (ren l v f e < l.length ∧ l.getD (ren l v f e) 0 = v)
  | 0, e, h => by rw [ren] at h; omega
  | f + 1, e, h => by
    rw [ren] at h ⊢
    by_cases c : e < l.length ∧ l.getD e 0 = v
    · rw [if_pos c] at h ⊢; exact ren_stop l v f (e + 1) (by omega)
    · rw [if_neg c]; exact c
theorem rend_ne {l : List Nat} {a : Nat} (ha : a < l.length) (h : rend l a < l.length) : l.getD (rend l a) 0 ≠ l.getD a 0 := fun e => by
  have := ren_stop l (l.getD a 0) (l.length - a) a (by unfold rend at h; omega)
  exact this ⟨h, e⟩
theorem sq_left {l : List Nat} {i : Nat} {x : Stp} (h : i < l.length) (hx : x ∈ if l.getD i 0 = 0 then zer (rend l i - i) else eqs (l.getD i 0) (rend l i - i)) : x ∈ sq l i := by rw [sq_on h]; exact List.mem_append_left _ hx
theorem sq_right {l : List Nat} {i : Nat} {x : Stp} (h : i < l.length) (hx : x ∈ sq l (rend l i)) : x ∈ sq l i := by rw [sq_on h]; exact List.mem_append_right _ hx
theorem sq_zero {l : List Nat} {i : Nat} (h : i < l.length) (h0 : l.getD i 0 = 0) : ∃ x ∈ sq l i, x.1 = 0 ∨ x.1 = 17 ∨ x.1 = 18 := by
  have := rend_spec h
  obtain ⟨x, hx, hh⟩ := zer_mem (n := rend l i - i) (by omega)
  exact ⟨x, sq_left h (by rw [if_pos h0]; exact hx), hh⟩
theorem sq_some {l : List Nat} {i : Nat} (h : i < l.length) (h0 : l.getD i 0 ≠ 0) : (l.getD i 0, 0, 0) ∈ sq l i := sq_left h (by rw [if_neg h0]; exact List.mem_cons_self)
theorem sq_find {l : List Nat} (i j : Nat) (hij : i ≤ j) (hj : j < l.length) (h : l.getD j 0 ≠ 0) : ∃ v, v ≠ 0 ∧ (v, 0, 0) ∈ sq l i ∧ ∃ s, l.getD s 0 = v := by
  by_cases h0 : l.getD i 0 = 0
  · obtain ⟨e1, e2, e3⟩ := rend_spec (show i < l.length by omega)
    have hge : rend l i ≤ j := by
      by_cases c : j < rend l i
      · exact (h ((e3 j hij c).trans h0)).elim
      · omega
    obtain ⟨v, h1, h2, h3⟩ := sq_find (rend l i) j hge hj h
    exact ⟨v, h1, sq_right (by omega) h2, h3⟩
  · exact ⟨_, h0, sq_some (by omega) h0, i, rfl⟩
termination_by l.length - i
decreasing_by omega
theorem two_steps {l : List Nat} (hb : ∀ n ∈ l, n ≤ 15) (hl : 4 ≤ l.length) {j : Nat} (hj : j < l.length) (h : l.getD j 0 ≠ 0) : ∃ x ∈ sq l 0, ∃ y ∈ sq l 0, x.1 ≠ y.1 := by
  have h15 : ∀ s, l.getD s 0 ≤ 15 := fun s => by
    by_cases hs : s < l.length
    · rw [Pf.getD_eq hs]; exact hb _ (List.getElem_mem hs)
    · rw [List.getD_eq_getElem?_getD, List.getElem?_eq_none (by omega)]; exact Nat.zero_le _
  by_cases h0 : l.getD 0 0 = 0
  · obtain ⟨x, hx, hh⟩ := sq_zero (by omega) h0
    obtain ⟨v, h1, h2, s, h3⟩ := sq_find 0 j (Nat.zero_le _) hj h
    have := h15 s
    exact ⟨x, hx, _, h2, by show x.1 ≠ v; omega⟩
  · obtain ⟨e1, e2, e3⟩ := rend_spec (show 0 < l.length by omega)
    have h1 := sq_some (show 0 < l.length by omega) h0
    have := h15 0
    by_cases c : 4 ≤ rend l 0
    · refine ⟨_, h1, (16, min (rend l 0 - 0 - 1) 6 - 3, 2), sq_left (by omega) ?_, by show l.getD 0 0 ≠ 16; omega⟩
      rw [if_neg h0, eqs, eqr_big (by omega)]
      exact List.mem_cons_of_mem _ List.mem_cons_self
    · have hlt : rend l 0 < l.length := by omega
      have hne := rend_ne (show 0 < l.length by omega) hlt
      by_cases z : l.getD (rend l 0) 0 = 0
      · obtain ⟨y, hy, hh⟩ := sq_zero hlt z
        exact ⟨_, h1, y, sq_right (by omega) hy, by show l.getD 0 0 ≠ y.1; omega⟩
      · exact ⟨_, h1, _, sq_right (by omega) (sq_some hlt z), fun e => hne (by show _ = l.getD 0 0; exact e.symm)⟩
theorem sok_lt {x : Stp} (h : Sok 15 x) : x.1 < 19 := by rcases h with h | h | h | h <;> omega
theorem fil_zero (c : List Nat) : List.replicate 19 0 = tab 19 (fil c 0) := tab_eq (by simp) fun a ha => by rw [List.getElem?_replicate, if_pos ha]; rfl
/-! a block's own header -/
theorem own_read {ts : List Nat} (hts : ts.length ≤ 1000000) {B r : List Bool} {a : Nat} (ha : a ≤ B.length) (hB : B.drop a = hdr (oln (fql ts) 15) (oln (fqd ts) 15) ++ r) :
    rown B a = .ok ((trm (oln (fql ts) 15) 257, trm (oln (fqd ts) 15) 1), a + (hdr (oln (fql ts) 15) (oln (fqd ts) 15)).length) := by
  have p1 : ∀ f ∈ fql ts, f ≤ 1099511627776 := fun n hn => by have := fql_bd ts n hn; omega
  have p2 : ∀ f ∈ fqd ts, f ≤ 1099511627776 := fun n hn => by have := fqd_bd ts n hn; omega
  have q1 := fql_len ts
  have q2 := fqd_len ts
  obtain ⟨g1, g2, g3, _, _⟩ := oln_law (fs := fql ts) (m := 15) (by decide) (by decide) p1 (by omega) (by omega)
  obtain ⟨d1, d2, d3, _, _⟩ := oln_law (fs := fqd ts) (m := 15) (by decide) (by decide) p2 (by omega) (by omega)
  have gb := (oln_ok (fs := fql ts) (m := 15) (by decide) (by decide) p1 (by omega) (by omega)).1
  have db := (oln_ok (fs := fqd ts) (m := 15) (by decide) (by decide) p2 (by omega) (by omega)).1
  have f256 : 0 < (fql ts).getD 256 0 := by
    have h1 := cnl_mono (ts.map lsm) ((List.replicate 286 0).set 256 1) 256
    have h2 : ((List.replicate 286 0).set 256 1).getD 256 0 = 1 := by
      rw [List.getD_eq_getElem?_getD, List.getElem?_set_self (by rw [List.length_replicate]; decide)]; rfl
    unfold fql; omega
  have accL := acc_oln (fs := fql ts) (m := 15) (k := 257) (by decide) (by decide) p1 (by omega) (by omega) (nu_pos (by omega) f256)
  have accD : 1 ≤ nu (fqd ts) → acc (trm (oln (fqd ts) 15) 1) = true := acc_oln (fs := fqd ts) (m := 15) (k := 1) (by decide) (by decide) p2 (by omega) (by omega)
  have l256 : 0 < (oln (fql ts) 15).getD 256 0 := (g3 256 (by omega)).1.1 f256
  have duse : 0 < us (trm (oln (fqd ts) 15) 1) → 1 ≤ nu (fqd ts) := fun h => by
    rw [us_nu] at h
    have : nu (trm (oln (fqd ts) 15) 1) = nu (fqd ts) := nu_eq fun i => by
      rw [trm_get]
      by_cases hi : i < (fqd ts).length
      · exact (d3 i hi).1.symm
      · rw [List.getD_eq_getElem?_getD, List.getElem?_eq_none (by omega), List.getD_eq_getElem?_getD, List.getElem?_eq_none (by omega)]
    omega
  generalize oln (fql ts) 15 = L at *
  generalize oln (fqd ts) 15 = D at *
  have c1 := ctn_le L 257; have c2 := ctn_le D 1
  have c3 := ctn_ge (l := L) (least := 257) (by omega); have c4 := ctn_ge (l := D) (least := 1) (by omega)
  have hal : allL L D = trm L 257 ++ trm D 1 := rfl
  have hall : (allL L D).length = ctn L 257 + ctn D 1 := by rw [hal, List.length_append, trm_len, trm_len]
  have hab : ∀ n ∈ allL L D, n ≤ 15 := allL_mem gb db
  have hst := sq_ok (m := 15) hab 0
  have hsl := sq_len (allL L D) 0
  have h256 : (allL L D).getD 256 0 = L.getD 256 0 := by
    rw [hal, List.getD_eq_getElem?_getD, List.getElem?_append_left (by rw [trm_len]; omega), ← List.getD_eq_getElem?_getD, trm_get]
  obtain ⟨x, hx, y, hy, hxy⟩ := two_steps hab (by omega) (j := 256) (by omega) (by rw [h256]; omega)
  unfold hdr at hB ⊢
  have hrl := @rln_sq
  generalize hSt : sq (allL L D) 0 = st at *
  have p3 : ∀ f ∈ frqS st, f ≤ 1099511627776 := fun n hn => by have := frqS_bd st n hn; omega
  have q3 := frqS_len st
  obtain ⟨s1, s2, s3, s4, _⟩ := oln_law (fs := frqS st) (m := 7) (by decide) (by decide) p3 (by omega) (by omega)
  have sb := oln_ok (fs := frqS st) (m := 7) (by decide) (by decide) p3 (by omega) (by omega)
  have hpos : ∀ z ∈ st, 0 < (frqS st).getD z.1 0 := fun z hz => cnl_pos (List.mem_map_of_mem hz) (by rw [List.length_replicate]; exact sok_lt (hst z hz))
  have hkr := s4 (nu_two (by rw [q3]; exact sok_lt (hst x hx)) (by rw [q3]; exact sok_lt (hst y hy)) (hpos x hx) (hpos y hy) hxy)
  have hHs : ∀ z ∈ st, Hs (oln (frqS st) 7) z := fun z hz => (s3 z.1 (by rw [q3]; exact sok_lt (hst z hz))).1.1 (hpos z hz)
  generalize oln (frqS st) 7 = c at *
  have hcode : Code c := ⟨fun n hn => Nat.le_trans (sb.1 n hn) (by decide), sb.2⟩
  have k1 := ctn_le (lst c) 4; have k2 := ctn_ge (l := lst c) (least := 4) (by rw [lst_len]; decide)
  rw [lst_len] at k1
  simp only [List.append_assoc] at hB
  have r1 := rbits_ok hB (show _ < 2 ^ 5 by omega) ha
  have b1 := drop_more hB
  have v1 := (cut_bits _ B _ _ _ ha r1).2.1
  rw [low_len] at b1
  have r2 := rbits_ok b1 (show _ < 2 ^ 5 by omega) v1
  have b2 := drop_more b1
  have v2 := (cut_bits _ B _ _ _ v1 r2).2.1
  rw [low_len] at b2
  have r3 := rbits_ok b2 (show _ < 2 ^ 4 by omega) v2
  have b3 := drop_more b2
  have v3 := (cut_bits _ B _ _ _ v2 r3).2.1
  rw [low_len] at b3
  have r4 := l3_read (c := c) sb.1 (ctn (lst c) 4) 0 _ (by omega) v3 (by rw [List.drop_zero]; exact b3)
  rw [← fil_zero, Nat.zero_add, fil_end (by omega)] at r4
  have b4 := drop_more b3
  have h3l : (hdr3 c (ctn (lst c) 4)).length = 3 * ctn (lst c) 4 := by
    unfold hdr3
    have : ∀ l : List Nat, (l.flatMap fun n => low n 3).length = 3 * l.length := fun l => by
      induction l with
      | nil => rfl
      | cons a l ih => rw [List.flatMap_cons, List.length_append, low_len, ih, List.length_cons]; omega
    rw [this, List.length_take, lst_len]; omega
  have v4 := (cut_l3 _ _ _ B _ _ _ v3 r4).2.1
  rw [h3l] at b4
  have r5 := hrl hcode hab 0 _ (Nat.zero_le _) v4 (by rw [hSt]; exact hHs) (by rw [hSt]; exact b4)
  rw [List.take_zero, hSt, hall] at r5
  unfold rown
  have e1 : ctn L 257 - 257 + 257 = ctn L 257 := by omega
  have e2 : ctn D 1 - 1 + 1 = ctn D 1 := by omega
  have e3 : ctn (lst c) 4 - 4 + 4 = ctn (lst c) 4 := by omega
  rw [bnd_ok r1, bnd_ok r2, bnd_ok r3, if_neg (by omega), e1, e2, e3, bnd_ok r4, if_pos (chv_full hcode.b30 (by omega) hkr), bnd_ok r5]
  have t1 : (allL L D).take (ctn L 257) = trm L 257 := by rw [hal, ← trm_len L 257, List.take_left]
  have t2 : (allL L D).drop (ctn L 257) = trm D 1 := by rw [hal, ← trm_len L 257, List.drop_left]
  have hbad : ¬ badl (allL L D) (ctn L 257) := by
    unfold badl
    rw [t1, t2, h256, accL]
    rintro (h | h | ⟨h, h'⟩)
    · cases h
    · omega
    · rw [accD (duse h')] at h; cases h
  rw [if_neg hbad, t1, t2]
  rw [List.length_append, List.length_append, List.length_append, List.length_append, low_len, low_len, low_len, h3l]
  have e4 : a + 5 + 5 + 4 + 3 * ctn (lst c) 4 + (st.flatMap (sbits c)).length = a + (5 + 5 + 4 + 3 * ctn (lst c) 4 + (st.flatMap (sbits c)).length) := by omega
  rw [e4]
/-! the whole -/
theorem fixD_get {s : Nat} (h : s < 32) : fixD.getD s 0 = 5 := by unfold fixD; rw [List.getD_eq_getElem?_getD, tab_get h]; rfl
theorem fixL_get {s : Nat} (h : s < 288) : 1 ≤ fixL.getD s 0 := by
  unfold fixL; rw [List.getD_eq_getElem?_getD, tab_get h]
  show 1 ≤ fxl s
  unfold fxl; split <;> (try split) <;> (try split) <;> omega
theorem code_fix : Code fixL ∧ Code fixD := ⟨⟨fix_le.1, by rw [fix_kr.1]; decide⟩, ⟨fix_le.2, by rw [fix_kr.2]; decide⟩⟩
theorem code_own (lv : Nat) {ts : List Nat} (hl : ts.length ≤ 1000000) : Code (blL lv ts) ∧ Code (blD lv ts) := by
  obtain ⟨ga, gb, gc, gd, ge, gf, _⟩ := bl_ok lv hl
  exact ⟨⟨gc, ge⟩, ⟨gd, gf⟩⟩
theorem has_own {lv : Nat} {ts : List Nat} (hl : ts.length ≤ 1000000) (htk : ∀ t ∈ ts, Tok t) : (∀ t ∈ ts, Has (blL lv ts) (blD lv ts) t) ∧ 1 ≤ (blL lv ts).getD 256 0 := by
  by_cases h1 : lv = 1
  · subst h1
    refine ⟨fun t ht => ?_, fixL_get (by decide)⟩
    unfold Has
    rw [show blL 1 ts = fixL from rfl, show blD 1 ts = fixD from rfl]
    split
    · exact fixL_get (by omega)
    · rcases htk t ht with h | ⟨a1, a2, a3, a4⟩
      · omega
      · have := lsy_spec a1 a2; have := dsy_spec a3 a4
        exact ⟨fixL_get (by omega), by rw [fixD_get (by omega)]; decide⟩
  · have p1 : ∀ f ∈ fql ts, f ≤ 1099511627776 := fun n hn => by have := fql_bd ts n hn; omega
    have p2 : ∀ f ∈ fqd ts, f ≤ 1099511627776 := fun n hn => by have := fqd_bd ts n hn; omega
    have q1 := fql_len ts
    have q2 := fqd_len ts
    obtain ⟨_, _, g3, _, _⟩ := oln_law (fs := fql ts) (m := 15) (by decide) (by decide) p1 (by omega) (by omega)
    obtain ⟨_, _, d3, _, _⟩ := oln_law (fs := fqd ts) (m := 15) (by decide) (by decide) p2 (by omega) (by omega)
    have e1 : blL lv ts = oln (fql ts) 15 := by unfold blL; rw [if_neg h1]
    have e2 : blD lv ts = oln (fqd ts) 15 := by unfold blD; rw [if_neg h1]
    have f256 : 0 < (fql ts).getD 256 0 := by
      have h1 := cnl_mono (ts.map lsm) ((List.replicate 286 0).set 256 1) 256
      have h2 : ((List.replicate 286 0).set 256 1).getD 256 0 = 1 := by
        rw [List.getD_eq_getElem?_getD, List.getElem?_set_self (by rw [List.length_replicate]; decide)]; rfl
      unfold fql; omega
    rw [e1, e2]
    refine ⟨fun t ht => ?_, (g3 256 (by omega)).1.1 f256⟩
    have hls : ∀ s, s ∈ ts.map lsm → s < 286 → 1 ≤ (oln (fql ts) 15).getD s 0 := fun s hs hs2 => (g3 s (by omega)).1.1 (cnl_pos hs (by rw [List.length_set, List.length_replicate]; exact hs2))
    have hlt := hls (lsm t) (List.mem_map_of_mem ht)
    unfold Has
    unfold lsm at hlt
    split
    · rename_i h; rw [if_pos h] at hlt; exact hlt (by omega)
    · rename_i h
      rw [if_neg h] at hlt
      rcases htk t ht with h' | ⟨a1, a2, a3, a4⟩
      · omega
      · have hL := lsy_spec a1 a2; have hD := dsy_spec a3 a4
        refine ⟨hlt (by omega), (d3 _ (by omega)).1.1 (cnl_pos ?_ (by rw [List.length_replicate]; omega))⟩
        unfold dsms
        exact List.mem_map_of_mem (f := fun t => dsy (t % 65536)) (List.mem_filter.2 ⟨ht, by rw [decide_eq_true_eq]; omega⟩)
/-- a block with a code, behind its two numbers -/
theorem kin_read {l p : List UInt8} {lv lim : Nat} (hlv : lv = 1 ∨ lv = 2) (hl : l.length ≤ 32768) {B r : List Bool} {a : Nat} (ha : a ≤ B.length)
    (hB : B.drop a = hdv lv (toks l 0) ++ (tbs (blL lv (toks l 0)) (blD lv (toks l 0)) (toks l 0) ++ (btv (Pf.code (blL lv (toks l 0)) 256) ((blL lv (toks l 0)).getD 256 0) ++ r))) :
    rkin lim p [] lv B a = if l.length ≤ lim then .ok (l, a + (hdv lv (toks l 0)).length + (tbs (blL lv (toks l 0)) (blD lv (toks l 0)) (toks l 0)).length + (blL lv (toks l 0)).getD 256 0) else .error 4 := by
  have htl := toks_len l 0
  have htk := toks_tok hl
  obtain ⟨hh, hend⟩ := has_own (lv := lv) (ts := toks l 0) (by omega) htk
  obtain ⟨hcL, hcD⟩ := code_own lv (ts := toks l 0) (by omega)
  unfold rkin
  rw [if_neg (by omega)]
  by_cases h1 : lv = 1
  · subst h1
    rw [if_pos rfl]
    have := tk_toks (lim := lim) hcL hcD hl hend 0 a (Nat.zero_le _) (Nat.zero_le _) hh hB ha
    rw [List.take_zero] at this
    exact this
  · obtain rfl : lv = 2 := by omega
    rw [if_neg (by decide), if_pos rfl]
    have hhd : hdv 2 (toks l 0) = hdr (oln (fql (toks l 0)) 15) (oln (fqd (toks l 0)) 15) := rfl
    have hL : blL 2 (toks l 0) = oln (fql (toks l 0)) 15 := rfl
    have hD : blD 2 (toks l 0) = oln (fqd (toks l 0)) 15 := rfl
    rw [hhd] at hB ⊢
    have r1 := own_read (by omega) ha hB
    have k1 := drop_more hB
    have v1 := (cut_own B _ _ _ ha r1).2.1
    rw [bnd_ok r1]
    rw [hL, hD] at *
    have t1 := trm_get (oln (fql (toks l 0)) 15) 257
    have t2 := trm_get (oln (fqd (toks l 0)) 15) 1
    rw [← tb_trim t1 t2, ← code_trim t1 256, ← t1 256] at k1
    have c1 : Code (trm (oln (fql (toks l 0)) 15) 257) := ⟨trm_mem hcL.le, by rw [trm_kr]; exact hcL.kr⟩
    have c2 : Code (trm (oln (fqd (toks l 0)) 15) 1) := ⟨trm_mem hcD.le, by rw [trm_kr]; exact hcD.kr⟩
    have := tk_toks (lim := lim) c1 c2 hl (by rw [t1]; exact hend) 0 _ (Nat.zero_le _) (Nat.zero_le _) (fun t ht => by have := hh t ht; unfold Has at this ⊢; simp only [t1, t2]; exact this) k1 v1
    rw [List.take_zero, tb_trim t1 t2, t1] at this
    exact this
theorem cb_split (lv : Nat) (ts : List Nat) (r : List Bool) : cbits lv ts ++ r = low 1 1 ++ (low lv 2 ++ (hdv lv ts ++ (tbs (blL lv ts) (blD lv ts) ts ++ (btv (Pf.code (blL lv ts) 256) ((blL lv ts).getD 256 0) ++ r)))) := by
  unfold cbits; simp only [List.append_assoc]
theorem cb_len (lv : Nat) (ts : List Nat) : (cbits lv ts).length = 3 + (hdv lv ts).length + (tbs (blL lv ts) (blD lv ts) ts).length + (blL lv ts).getD 256 0 := by
  unfold cbits; simp only [List.length_append, low_len, btv_len]
theorem blk_read {l p : List UInt8} {lv lim : Nat} (hlv : lv = 1 ∨ lv = 2) (hl : l.length ≤ 32768) {B r : List Bool} (hB : B = cbits lv (toks l 0) ++ r) :
    rblk lim p [] B 0 = if l.length ≤ lim then .ok ((1, l), (cbits lv (toks l 0)).length) else .error 4 := by
  have h0 : B.drop 0 = cbits lv (toks l 0) ++ r := by rw [List.drop_zero, hB]
  rw [cb_split] at h0
  have r1 := rbits_ok h0 (show 1 < 2 ^ 1 by decide) (Nat.zero_le _)
  have k1 := drop_more h0
  have v1 := (cut_bits _ B _ _ _ (Nat.zero_le _) r1).2.1
  rw [low_len] at k1
  have r2 := rbits_ok k1 (show lv < 2 ^ 2 by omega) v1
  have k2 := drop_more k1
  have v2 := (cut_bits _ B _ _ _ v1 r2).2.1
  rw [low_len] at k2
  have r3 := kin_read (p := p) (lim := lim) hlv hl v2 k2
  unfold rblk
  rw [bnd_ok r1, bnd_ok r2]
  by_cases c : l.length ≤ lim
  · rw [if_pos c] at r3 ⊢
    rw [bnd_ok r3, cb_len]
  · rw [if_neg c] at r3 ⊢
    rw [bnd_err r3]
/-- the same of bits that are cut off -/
theorem cut_kin (lim : Nat) (p out : List UInt8) {k : Nat} (hk : k ≠ 0) : Cut (rkin lim p out k) := by
  have ht : ∀ L D, Cut fun B a => tk L D lim B a out := fun L D B a x e ha h => tk_cut L D lim B a out x e ha h
  unfold rkin
  by_cases h1 : k = 1
  · simp only [if_neg hk, if_pos h1]; exact ht _ _
  · by_cases h2 : k = 2
    · simp only [if_neg hk, if_neg h1, if_pos h2]; exact cut_own.bnd fun x => ht _ _
    · simp only [if_neg hk, if_neg h1, if_neg h2]; exact Cut.fail 9
noncomputable def rblk' (lim : Nat) (p out : List UInt8) : List Bool → Nat → Except Int ((Nat × List UInt8) × Nat) :=
  bnd (rbits 1) fun x => bnd (rbits 2) fun k => if k = 0 then fun _ _ => .error 99 else bnd (rkin lim p out k) fun o => fun _ a => .ok ((x, o), a)
theorem cut_blk' (lim : Nat) (p out : List UInt8) : Cut (rblk' lim p out) := by
  unfold rblk'
  refine (cut_bits _).bnd fun x => (cut_bits _).bnd fun k => ?_
  split
  · exact Cut.fail 99
  · exact (cut_kin lim p out ‹_›).bnd fun o => Cut.ok _
theorem blk'_to {lim : Nat} {p out : List UInt8} {B : List Bool} {a : Nat} (h : rblk' lim p out B a ≠ .error 99) : rblk lim p out B a = rblk' lim p out B a := by
  unfold rblk rblk' at *
  cases h1 : rbits 1 B a with
  | error e => rw [bnd_err h1, bnd_err h1]
  | ok q =>
    obtain ⟨x, a1⟩ := q
    rw [bnd_ok h1] at h ⊢
    rw [bnd_ok h1]
    cases h2 : rbits 2 B a1 with
    | error e => rw [bnd_err h2, bnd_err h2]
    | ok q =>
      obtain ⟨k, a2⟩ := q
      rw [bnd_ok h2] at h ⊢
      rw [bnd_ok h2]
      by_cases c : k = 0
      · rw [if_pos c] at h; exact (h rfl).elim
      · rw [if_neg c]
theorem blk'_of {l p : List UInt8} {lv lim : Nat} (hlv : lv = 1 ∨ lv = 2) (hl : l.length ≤ 32768) (hlim : l.length ≤ lim) {B r : List Bool} (hB : B = cbits lv (toks l 0) ++ r) : rblk' lim p [] B 0 = .ok ((1, l), (cbits lv (toks l 0)).length) := by
  have h0 : B.drop 0 = cbits lv (toks l 0) ++ r := by rw [List.drop_zero, hB]
  rw [cb_split] at h0
  have r1 := rbits_ok h0 (show 1 < 2 ^ 1 by decide) (Nat.zero_le _)
  have k1 := drop_more h0
  have v1 := (cut_bits _ B _ _ _ (Nat.zero_le _) r1).2.1
  rw [low_len] at k1
  have r2 := rbits_ok k1 (show lv < 2 ^ 2 by omega) v1
  have hb := blk_read (p := p) (lim := lim) hlv hl hB
  rw [if_pos hlim] at hb
  unfold rblk at hb
  unfold rblk'
  rw [bnd_ok r1, bnd_ok r2] at hb ⊢
  rw [if_neg (by omega)]; exact hb
theorem ub_take (p : List UInt8) (n : Nat) : ub (p.take n) = (ub p).take (8 * n) := by
  by_cases h : n ≤ p.length
  · have := ub_app (p.take n) (p.drop n)
    rw [List.take_append_drop] at this
    conv => rhs; rw [this]
    rw [List.take_append_of_le_length (by rw [ub_len, List.length_take]; omega)]
    exact (List.take_of_length_le (by rw [ub_len, List.length_take]; omega)).symm
  · rw [List.take_of_length_le (by omega), List.take_of_length_le (by rw [ub_len]; omega)]
/-! stored data -/
theorem bv_add (f : Nat → Bool) (n : Nat) : ∀ m, bv f (n + m) = bv f n + 2 ^ n * bv (fun i => f (n + i)) m
  | 0 => by simp [bv]
  | m + 1 => by
    rw [← Nat.add_assoc, bv, bv_add f n m, bv, Nat.mul_add, Nat.add_assoc]
    congr 2
    split
    · rw [Nat.pow_add]
    · rfl
theorem bs_byte {p : List UInt8} {j : Nat} (h : j < p.length) : bs (ub p) (8 * j) 8 = (p.getD j 0).toNat := by
  unfold bs
  rw [bv_congr (g := bit (p.getD j 0).toNat) (fun i hi => by rw [ub_getD (by omega), show (8 * j + i) / 8 = j by omega, show (8 * j + i) % 8 = i by omega]), bv_bit]
  have := (p.getD j 0).toNat_lt
  omega
theorem bs_two {p : List UInt8} {j : Nat} (h : j + 1 < p.length) : bs (ub p) (8 * j) 16 = (p.getD j 0).toNat + 256 * (p.getD (j + 1) 0).toNat := by
  have h1 := bs_byte (p := p) (j := j) (by omega)
  have h2 := bs_byte (p := p) (j := j + 1) h
  unfold bs at h1 h2 ⊢
  rw [show 16 = 8 + 8 from rfl, bv_add, h1]
  have : bv (fun i => (fun i => (ub p).getD (8 * j + i) false) (8 + i)) 8 = (p.getD (j + 1) 0).toNat := by
    rw [← h2]
    exact bv_congr fun i _ => by show (ub p).getD (8 * j + (8 + i)) false = _; rw [show 8 * j + (8 + i) = 8 * (j + 1) + i by omega]
  rw [this]
theorem xor_not {n : Nat} (h : n < 65536) : n ^^^ (65535 - n) = 65535 := by
  have h1 : (BitVec.ofNat 16 n ^^^ ~~~ (BitVec.ofNat 16 n)).toNat = 65535 := by
    have : BitVec.ofNat 16 n ^^^ ~~~ (BitVec.ofNat 16 n) = BitVec.allOnes 16 := by
      rw [← BitVec.allOnes_xor, BitVec.xor_comm, BitVec.xor_assoc, BitVec.xor_self, BitVec.xor_zero]
    rw [this]; decide
  rw [BitVec.toNat_xor, BitVec.toNat_not, BitVec.toNat_ofNat, Nat.mod_eq_of_lt h] at h1
  exact h1
theorem sto_read {l m : List UInt8} {lim : Nat} (hl : l.length ≤ 65535) : rinf lim (sto l ++ m) [] (ub (sto l ++ m)) 0 = if l.length ≤ lim then .ok (l, 8 * (sto l).length) else .error 4 := by
  have hsl : (sto l).length = l.length + 5 := by simp only [sto, List.length_append, List.length_cons, List.length_nil]; omega
  obtain ⟨p, hp⟩ : ∃ p, p = sto l ++ m := ⟨_, rfl⟩
  have hpl : p.length = l.length + 5 + m.length := by rw [hp, List.length_append, hsl]
  have g0 : p.getD 0 0 = 1 := by rw [hp]; rfl
  have g1 : (p.getD 1 0).toNat = l.length % 256 := by rw [hp]; show (UInt8.ofNat l.length).toNat = _; simp
  have g2 : (p.getD 2 0).toNat = l.length / 256 % 256 := by rw [hp]; show (UInt8.ofNat (l.length / 256)).toNat = _; simp
  have g3 : (p.getD 3 0).toNat = 255 - l.length % 256 := by rw [hp]; show (UInt8.ofNat (255 - l.length % 256)).toNat = _; simp; omega
  have g4 : (p.getD 4 0).toNat = 255 - l.length / 256 % 256 := by rw [hp]; show (UInt8.ofNat (255 - l.length / 256 % 256)).toNat = _; simp; omega
  have hd : p.drop 5 = l ++ m := by rw [hp]; rfl
  rw [← hp]
  have hul := ub_len p
  have u0 : ∀ i, i < 8 → (ub p).getD i false = bit 1 i := fun i hi => by
    rw [ub_getD (by omega), show i / 8 = 0 by omega, show i % 8 = i by omega, g0]; rfl
  have r1 : rbits 1 (ub p) 0 = .ok (1, 0 + 1) := by
    rw [rbits, if_neg (by omega)]
    have : bs (ub p) 0 1 = 1 := by unfold bs; rw [bv_congr (g := bit 1) (fun i hi => by rw [Nat.zero_add, u0 i (by omega)])]; rfl
    rw [this]
  have r2 : rbits 2 (ub p) (0 + 1) = .ok (0, 0 + 1 + 2) := by
    rw [rbits, if_neg (by omega)]
    have : bs (ub p) (0 + 1) 2 = 0 := by unfold bs; rw [bv_congr (g := fun i => bit 1 (1 + i)) (fun i hi => by rw [Nat.zero_add, u0 _ (by omega)])]; decide
    rw [this]
  have r3 : rbits 16 (ub p) ((0 + 1 + 2 + 7) / 8 * 8) = .ok (l.length, 24) := by
    rw [show (0 + 1 + 2 + 7) / 8 * 8 = 8 * 1 from rfl, rbits, if_neg (by omega), bs_two (by omega), g1, g2]
    congr 2; omega
  have r4 : rbits 16 (ub p) 24 = .ok (65535 - l.length, 40) := by
    rw [show (24 : Nat) = 8 * 3 from rfl, rbits, if_neg (by omega), bs_two (by omega), g3, g4]
    congr 2; omega
  have hk : rkin lim p [] 0 (ub p) (0 + 1 + 2) = if l.length ≤ lim then .ok (l, 40 + 8 * l.length) else .error 4 := by
    unfold rkin
    rw [if_pos rfl]
    unfold rsto
    rw [r3]; simp only; rw [r4]; simp only
    rw [if_neg (fun h => h (xor_not (by omega)))]
    by_cases c : l.length ≤ lim
    · rw [if_pos c, if_neg (by simp; omega), if_neg (by omega), show 40 / 8 = 5 from rfl, hd, List.take_left]; rfl
    · rw [if_neg c, if_pos (by simp; omega)]
  by_cases c : l.length ≤ lim
  · rw [if_pos c] at hk ⊢
    have hb : rblk lim p [] (ub p) 0 = .ok ((1, l), 40 + 8 * l.length) := by
      unfold rblk; rw [bnd_ok r1, bnd_ok r2, bnd_ok hk]
    rw [rinf_last hb, hsl]; congr 2; omega
  · rw [if_neg c] at hk ⊢
    have hb : rblk lim p [] (ub p) 0 = .error 4 := by
      unfold rblk; rw [bnd_ok r1, bnd_ok r2, bnd_err hk]
    exact rinf_err hb
/-- what was compressed is restored, whatever follows -/
theorem inf_cmp {l m : List UInt8} {lv lim : Nat} (hlv : lv ≤ 2) (hl : l.length ≤ 32768) : rinf lim (cmp l lv ++ m) [] (ub (cmp l lv ++ m)) 0 = if l.length ≤ lim then .ok (l, if lv = 0 then 8 * (sto l).length else (cbits lv (toks l 0)).length) else .error 4 := by
  unfold cmp
  by_cases h0 : lv = 0
  · rw [if_pos h0, if_pos h0]; exact sto_read (by omega)
  · rw [if_neg h0, if_neg h0]
    have hB : ub (pk (cbits lv (toks l 0)) ++ m) = cbits lv (toks l 0) ++ (List.replicate (8 * (((cbits lv (toks l 0)).length + 7) / 8) - (cbits lv (toks l 0)).length) false ++ ub m) := by
      rw [ub_app, ub_pk, List.append_assoc]
    have hb := blk_read (p := pk (cbits lv (toks l 0)) ++ m) (lim := lim) (show lv = 1 ∨ lv = 2 by omega) hl hB
    by_cases c : l.length ≤ lim
    · rw [if_pos c] at hb ⊢; rw [rinf_last hb]
    · rw [if_neg c] at hb ⊢; rw [rinf_err hb]
theorem cmp_bytes (l : List UInt8) (lv : Nat) : ((if lv = 0 then 8 * (sto l).length else (cbits lv (toks l 0)).length) + 7) / 8 = (cmp l lv).length := by
  unfold cmp
  by_cases h0 : lv = 0
  · rw [if_pos h0, if_pos h0]; omega
  · rw [if_neg h0, if_neg h0, pk_len]
/-- without the last byte they end too early -/
theorem inf_trunc {l : List UInt8} {lv lim : Nat} (hlv : lv ≤ 2) (hl : l.length ≤ 32768) (hlim : l.length ≤ lim) : 1 ≤ (cmp l lv).length ∧ rinf lim ((cmp l lv).take ((cmp l lv).length - 1)) [] (ub ((cmp l lv).take ((cmp l lv).length - 1))) 0 = .error 10 := by
  by_cases h0 : lv = 0
  · have hc : cmp l lv = sto l := by unfold cmp; rw [if_pos h0]
    have hsl : (sto l).length = l.length + 5 := by simp only [sto, List.length_append, List.length_cons, List.length_nil]; omega
    rw [hc, hsl]
    refine ⟨by omega, ?_⟩
    obtain ⟨p, hp⟩ : ∃ p, p = (sto l).take (l.length + 5 - 1) := ⟨_, rfl⟩
    have hpl : p.length = l.length + 4 := by rw [hp, List.length_take, hsl]; omega
    rw [← hp]
    have hul := ub_len p
    have gg : ∀ j, j < l.length + 4 → p.getD j 0 = (sto l).getD j 0 := fun j hj => by
      rw [hp, List.getD_eq_getElem?_getD, List.getElem?_take_of_lt (by omega), ← List.getD_eq_getElem?_getD]
    have g0 : p.getD 0 0 = 1 := gg 0 (by omega)
    have u0 : ∀ i, i < 8 → (ub p).getD i false = bit 1 i := fun i hi => by
      rw [ub_getD (by omega), show i / 8 = 0 by omega, show i % 8 = i by omega, g0]; rfl
    have r1 : rbits 1 (ub p) 0 = .ok (1, 0 + 1) := by
      rw [rbits, if_neg (by omega)]
      have : bs (ub p) 0 1 = 1 := by unfold bs; rw [bv_congr (g := bit 1) (fun i hi => by rw [Nat.zero_add, u0 i (by omega)])]; rfl
      rw [this]
    have r2 : rbits 2 (ub p) (0 + 1) = .ok (0, 0 + 1 + 2) := by
      rw [rbits, if_neg (by omega)]
      have : bs (ub p) (0 + 1) 2 = 0 := by unfold bs; rw [bv_congr (g := fun i => bit 1 (1 + i)) (fun i hi => by rw [Nat.zero_add, u0 _ (by omega)])]; decide
      rw [this]
    have g1 : (p.getD 1 0).toNat = l.length % 256 := by rw [gg 1 (by omega)]; show (UInt8.ofNat l.length).toNat = _; simp
    have g2 : (p.getD 2 0).toNat = l.length / 256 % 256 := by rw [gg 2 (by omega)]; show (UInt8.ofNat (l.length / 256)).toNat = _; simp
    have r3 : rbits 16 (ub p) ((0 + 1 + 2 + 7) / 8 * 8) = .ok (l.length, 24) := by
      rw [show (0 + 1 + 2 + 7) / 8 * 8 = 8 * 1 from rfl, rbits, if_neg (by omega), bs_two (by omega), g1, g2]
      congr 2; omega
    have hk : rkin lim p [] 0 (ub p) (0 + 1 + 2) = .error 10 := by
      unfold rkin
      rw [if_pos rfl]
      unfold rsto
      rw [r3]; simp only
      by_cases c : l.length = 0
      · have r4 : rbits 16 (ub p) 24 = .error 10 := by rw [rbits, if_pos (by omega)]
        rw [r4]
      · have g3 : (p.getD 3 0).toNat = 255 - l.length % 256 := by rw [gg 3 (by omega)]; show (UInt8.ofNat (255 - l.length % 256)).toNat = _; simp; omega
        have g4 : (p.getD 4 0).toNat = 255 - l.length / 256 % 256 := by rw [gg 4 (by omega)]; show (UInt8.ofNat (255 - l.length / 256 % 256)).toNat = _; simp; omega
        have r4 : rbits 16 (ub p) 24 = .ok (65535 - l.length, 40) := by
          rw [show (24 : Nat) = 8 * 3 from rfl, rbits, if_neg (by omega), bs_two (by omega), g3, g4]
          congr 2; omega
        rw [r4]; simp only
        rw [if_neg (fun h => h (xor_not (by omega))), if_neg (by simp; omega), if_pos (by omega)]
    have hb : rblk lim p [] (ub p) 0 = .error 10 := by
      unfold rblk; rw [bnd_ok r1, bnd_ok r2, bnd_err hk]
    exact rinf_err hb
  · have hc : cmp l lv = pk (cbits lv (toks l 0)) := by unfold cmp; rw [if_neg h0]
    have hlen := cb_len lv (toks l 0)
    rw [hc, pk_len]
    refine ⟨by omega, ?_⟩
    rw [ub_take, ub_pk]
    have hf := blk'_of (p := (pk (cbits lv (toks l 0))).take (((cbits lv (toks l 0)).length + 7) / 8 - 1)) (lim := lim) (show lv = 1 ∨ lv = 2 by omega) hl hlim (B := cbits lv (toks l 0) ++ List.replicate (8 * (((cbits lv (toks l 0)).length + 7) / 8) - (cbits lv (toks l 0)).length) false) rfl
    have hq := ((cut_blk' lim _ [] _ 0 _ _ (Nat.zero_le _) hf).2.2 (8 * (((cbits lv (toks l 0)).length + 7) / 8 - 1)) (Nat.zero_le _)).1 (by omega)
    exact rinf_err (by rw [blk'_to (by rw [hq]; intro h; cases h), hq])
end Df
end Go.Proofs.YtcmgbjmcklfkcaaDoor
