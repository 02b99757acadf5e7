/- Texts of the claim, laid together: DfL, Df23, Df24, Df10. -/
import Derived.Test.YtajklleiifhipaaGreatDoorY0
import Derived.Test.YtajklleiifhipaaGreatDoorY5
import Derived.Test.YtajklleiifhipaaGreatDoorY14
import Derived.Test.YtajklleiifhipaaGreatDoorY17
set_option linter.unusedSimpArgs false
set_option linter.unusedVariables false
namespace Go.Proofs.YtajklleiifhipaaGreatDoor
open Sym
namespace Df
theorem zer_mem {n : Nat} (h : 1 ≤ n) : ∃ x ∈ zer n, x.1 = 0 ∨ x.1 = 17 ∨ x.1 = 18 := by
 by_cases h1 : 11 ≤ n
 · rw [zer_big h1]; exact ⟨_, List.mem_cons_self, .inr (.inr rfl)⟩
 by_cases h2 : 3 ≤ n
 · rw [zer_mid (by omega) h2]; exact ⟨_, List.mem_cons_self, .inr (.inl rfl)⟩
 rw [zer_few (by omega)]
 obtain ⟨m, rfl⟩ : ∃ m, n = m + 1 := ⟨n - 1, by omega⟩
 rw [List.replicate_succ]; exact ⟨_, List.mem_cons_self, .inl rfl⟩
theorem ren_stop (l : List Nat) (v : Nat) : ∀ (f e : Nat), ren l v f e < e + f → ¬ (ren l v f e < l.length ∧ l.getD (ren l v f e) 0 = v)
 | 0, e, h => by rw [ren] at h; omega
 | f + 1, e, h => by
  rw [ren] at h ⊢
  by_cases c : e < l.length ∧ l.getD e 0 = v
  · rw [if_pos c] at h ⊢; exact ren_stop l v f (e + 1) (by omega)
  rw [if_neg c]; exact c
theorem rend_ne {l : List Nat} {a : Nat} (ha : a < l.length) (h : rend l a < l.length) : l.getD (rend l a) 0 ≠ l.getD a 0 := fun e => by
 have := ren_stop l (l.getD a 0) (l.length - a) a (by unfold rend at h; omega)
 exact this ⟨h, e⟩
theorem sq_left {l : List Nat} {i : Nat} {x : Stp} (h : i < l.length) (hx : x ∈ if l.getD i 0 = 0 then zer (rend l i - i) else eqs (l.getD i 0) (rend l i - i)) : x ∈ sq l i := by rw [sq_on h]; exact List.mem_append_left _ hx
theorem sq_right {l : List Nat} {i : Nat} {x : Stp} (h : i < l.length) (hx : x ∈ sq l (rend l i)) : x ∈ sq l i := by rw [sq_on h]; exact List.mem_append_right _ hx
theorem sq_zero {l : List Nat} {i : Nat} (h : i < l.length) (h0 : l.getD i 0 = 0) : ∃ x ∈ sq l i, x.1 = 0 ∨ x.1 = 17 ∨ x.1 = 18 := by
 have := rend_spec h
 obtain ⟨x, hx, hh⟩ := zer_mem (n := rend l i - i) (by omega)
 exact ⟨x, sq_left h (by rw [if_pos h0]; exact hx), hh⟩
theorem sq_some {l : List Nat} {i : Nat} (h : i < l.length) (h0 : l.getD i 0 ≠ 0) : (l.getD i 0, 0, 0) ∈ sq l i := sq_left h (by rw [if_neg h0]; exact List.mem_cons_self)
theorem sq_find {l : List Nat} (i j : Nat) (hij : i ≤ j) (hj : j < l.length) (h : l.getD j 0 ≠ 0) : ∃ v, v ≠ 0 ∧ (v, 0, 0) ∈ sq l i ∧ ∃ s, l.getD s 0 = v := by
  by_cases h0 : l.getD i 0 = 0
  · obtain ⟨e1, e2, e3⟩ := rend_spec (show i < l.length by omega)
    have hge : rend l i ≤ j := by
      by_cases c : j < rend l i
      · exact (h ((e3 j hij c).trans h0)).elim
      omega
    obtain ⟨v, h1, h2, h3⟩ := sq_find (rend l i) j hge hj h
    exact ⟨v, h1, sq_right (by omega) h2, h3⟩
  exact ⟨_, h0, sq_some (by omega) h0, i, rfl⟩
termination_by l.length - i
decreasing_by omega
theorem two_steps {l : List Nat} (hb : ∀ n ∈ l, n ≤ 15) (hl : 4 ≤ l.length) {j : Nat} (hj : j < l.length) (h : l.getD j 0 ≠ 0) : ∃ x ∈ sq l 0, ∃ y ∈ sq l 0, x.1 ≠ y.1 := by
  have h15 : ∀ s, l.getD s 0 ≤ 15 := fun s => by
    by_cases hs : s < l.length
    · rw [Pf.getD_eq hs]; exact hb _ (List.getElem_mem hs)
    rw [List.getD_eq_getElem?_getD, List.getElem?_eq_none (by omega)]; exact Nat.zero_le _
  by_cases h0 : l.getD 0 0 = 0
  · obtain ⟨x, hx, hh⟩ := sq_zero (by omega) h0
    obtain ⟨v, h1, h2, s, h3⟩ := sq_find 0 j (Nat.zero_le _) hj h
    have := h15 s
    exact ⟨x, hx, _, h2, by show x.1 ≠ v; omega⟩
  obtain ⟨e1, e2, e3⟩ := rend_spec (show 0 < l.length by omega)
  have h1 := sq_some (show 0 < l.length by omega) h0
  have := h15 0
  by_cases c : 4 ≤ rend l 0
  · refine ⟨_, h1, (16, min (rend l 0 - 0 - 1) 6 - 3, 2), sq_left (by omega) ?_, by show l.getD 0 0 ≠ 16; omega⟩
    rw [if_neg h0, eqs, eqr_big (by omega)]
    exact List.mem_cons_of_mem _ List.mem_cons_self
  have hlt : rend l 0 < l.length := by omega
  have hne := rend_ne (show 0 < l.length by omega) hlt
  by_cases z : l.getD (rend l 0) 0 = 0
  · obtain ⟨y, hy, hh⟩ := sq_zero hlt z
    exact ⟨_, h1, y, sq_right (by omega) hy, by show l.getD 0 0 ≠ y.1; omega⟩
  exact ⟨_, h1, _, sq_right (by omega) (sq_some hlt z), fun e => hne (by show _ = l.getD 0 0; exact e.symm)⟩
theorem sok_lt {x : Stp} (h : Sok 15 x) : x.1 < 19 := by rcases h with h | h | h | h <;> omega
theorem fil_zero (c : List Nat) : List.replicate 19 0 = tab 19 (fil c 0) := tab_eq (by simp) fun a ha => by rw [List.getElem?_replicate, if_pos ha]; rfl
theorem own_read {ts : List Nat} (hts : ts.length ≤ 1000000) {B r : List Bool} {a : Nat} (ha : a ≤ B.length) (hB : B.drop a = hdr (oln (fql ts) 15) (oln (fqd ts) 15) ++ r) :
  rown B a = .ok ((trm (oln (fql ts) 15) 257, trm (oln (fqd ts) 15) 1), a + (hdr (oln (fql ts) 15) (oln (fqd ts) 15)).length) := by
 have p1 : ∀ f ∈ fql ts, f ≤ 1099511627776 := fun n hn => by have := fql_bd ts n hn; omega
 have p2 : ∀ f ∈ fqd ts, f ≤ 1099511627776 := fun n hn => by have := fqd_bd ts n hn; omega
 have q1 := fql_len ts
 have q2 := fqd_len ts
 obtain ⟨g1, g2, g3, _, _⟩ := oln_law (fs := fql ts) (m := 15) (by decide) (by decide) p1 (by omega) (by omega)
 obtain ⟨d1, d2, d3, _, _⟩ := oln_law (fs := fqd ts) (m := 15) (by decide) (by decide) p2 (by omega) (by omega)
 have gb := (oln_ok (fs := fql ts) (m := 15) (by decide) (by decide) p1 (by omega) (by omega)).1
 have db := (oln_ok (fs := fqd ts) (m := 15) (by decide) (by decide) p2 (by omega) (by omega)).1
 have f256 : 0 < (fql ts).getD 256 0 := by
  have h1 := cnl_mono (ts.map lsm) ((List.replicate 286 0).set 256 1) 256
  have h2 : ((List.replicate 286 0).set 256 1).getD 256 0 = 1 := by
   rw [List.getD_eq_getElem?_getD, List.getElem?_set_self (by rw [List.length_replicate]; decide)]; rfl
  unfold fql; omega
 have accL := acc_oln (fs := fql ts) (m := 15) (k := 257) (by decide) (by decide) p1 (by omega) (by omega) (nu_pos (by omega) f256)
 have accD : 1 ≤ nu (fqd ts) → acc (trm (oln (fqd ts) 15) 1) = true := acc_oln (fs := fqd ts) (m := 15) (k := 1) (by decide) (by decide) p2 (by omega) (by omega)
 have l256 : 0 < (oln (fql ts) 15).getD 256 0 := (g3 256 (by omega)).1.1 f256
 have duse : 0 < us (trm (oln (fqd ts) 15) 1) → 1 ≤ nu (fqd ts) := fun h => by
  rw [us_nu] at h
  have : nu (trm (oln (fqd ts) 15) 1) = nu (fqd ts) := nu_eq fun i => by
   rw [trm_get]
   by_cases hi : i < (fqd ts).length
   · exact (d3 i hi).1.symm
   rw [List.getD_eq_getElem?_getD, List.getElem?_eq_none (by omega), List.getD_eq_getElem?_getD, List.getElem?_eq_none (by omega)]
  omega
 generalize oln (fql ts) 15 = L at *
 generalize oln (fqd ts) 15 = D at *
 have c1 := ctn_le L 257; have c2 := ctn_le D 1
 have c3 := ctn_ge (l := L) (least := 257) (by omega); have c4 := ctn_ge (l := D) (least := 1) (by omega)
 have hal : allL L D = trm L 257 ++ trm D 1 := rfl
 have hall : (allL L D).length = ctn L 257 + ctn D 1 := by rw [hal, List.length_append, trm_len, trm_len]
 have hab : ∀ n ∈ allL L D, n ≤ 15 := allL_mem gb db
 have hst := sq_ok (m := 15) hab 0
 have hsl := sq_len (allL L D) 0
 have h256 : (allL L D).getD 256 0 = L.getD 256 0 := by
  rw [hal, List.getD_eq_getElem?_getD, List.getElem?_append_left (by rw [trm_len]; omega), ← List.getD_eq_getElem?_getD, trm_get]
 obtain ⟨x, hx, y, hy, hxy⟩ := two_steps hab (by omega) (j := 256) (by omega) (by rw [h256]; omega)
 unfold hdr at hB ⊢
 have hrl := @rln_sq
 generalize hSt : sq (allL L D) 0 = st at *
 have p3 : ∀ f ∈ frqS st, f ≤ 1099511627776 := fun n hn => by have := frqS_bd st n hn; omega
 have q3 := frqS_len st
 obtain ⟨s1, s2, s3, s4, _⟩ := oln_law (fs := frqS st) (m := 7) (by decide) (by decide) p3 (by omega) (by omega)
 have sb := oln_ok (fs := frqS st) (m := 7) (by decide) (by decide) p3 (by omega) (by omega)
 have hpos : ∀ z ∈ st, 0 < (frqS st).getD z.1 0 := fun z hz => cnl_pos (List.mem_map_of_mem hz) (by rw [List.length_replicate]; exact sok_lt (hst z hz))
 have hkr := s4 (nu_two (by rw [q3]; exact sok_lt (hst x hx)) (by rw [q3]; exact sok_lt (hst y hy)) (hpos x hx) (hpos y hy) hxy)
 have hHs : ∀ z ∈ st, Hs (oln (frqS st) 7) z := fun z hz => (s3 z.1 (by rw [q3]; exact sok_lt (hst z hz))).1.1 (hpos z hz)
 generalize oln (frqS st) 7 = c at *
 have hcode : Code c := ⟨fun n hn => Nat.le_trans (sb.1 n hn) (by decide), sb.2⟩
 have k1 := ctn_le (lst c) 4; have k2 := ctn_ge (l := lst c) (least := 4) (by rw [lst_len]; decide)
 rw [lst_len] at k1
 simp only [List.append_assoc] at hB
 have r1 := rbits_ok hB (show _ < 2 ^ 5 by omega) ha
 have b1 := drop_more hB
 have v1 := (cut_bits _ B _ _ _ ha r1).2.1
 rw [low_len] at b1
 have r2 := rbits_ok b1 (show _ < 2 ^ 5 by omega) v1
 have b2 := drop_more b1
 have v2 := (cut_bits _ B _ _ _ v1 r2).2.1
 rw [low_len] at b2
 have r3 := rbits_ok b2 (show _ < 2 ^ 4 by omega) v2
 have b3 := drop_more b2
 have v3 := (cut_bits _ B _ _ _ v2 r3).2.1
 rw [low_len] at b3
 have r4 := l3_read (c := c) sb.1 (ctn (lst c) 4) 0 _ (by omega) v3 (by rw [List.drop_zero]; exact b3)
 rw [← fil_zero, Nat.zero_add, fil_end (by omega)] at r4
 have b4 := drop_more b3
 have h3l : (hdr3 c (ctn (lst c) 4)).length = 3 * ctn (lst c) 4 := by
  unfold hdr3
  have : ∀ l : List Nat, (l.flatMap fun n => low n 3).length = 3 * l.length := fun l => by
   induction l with
   | nil => rfl
   | cons a l ih => rw [List.flatMap_cons, List.length_append, low_len, ih, List.length_cons]; omega
  rw [this, List.length_take, lst_len]; omega
 have v4 := (cut_l3 _ _ _ B _ _ _ v3 r4).2.1
 rw [h3l] at b4
 have r5 := hrl hcode hab 0 _ (Nat.zero_le _) v4 (by rw [hSt]; exact hHs) (by rw [hSt]; exact b4)
 rw [List.take_zero, hSt, hall] at r5
 unfold rown
 have e1 : ctn L 257 - 257 + 257 = ctn L 257 := by omega
 have e2 : ctn D 1 - 1 + 1 = ctn D 1 := by omega
 have e3 : ctn (lst c) 4 - 4 + 4 = ctn (lst c) 4 := by omega
 rw [bnd_ok r1, bnd_ok r2, bnd_ok r3, if_neg (by omega), e1, e2, e3, bnd_ok r4, if_pos (chv_full hcode.b30 (by omega) hkr), bnd_ok r5]
 have t1 : (allL L D).take (ctn L 257) = trm L 257 := by rw [hal, ← trm_len L 257, List.take_left]
 have t2 : (allL L D).drop (ctn L 257) = trm D 1 := by rw [hal, ← trm_len L 257, List.drop_left]
 have hbad : ¬ badl (allL L D) (ctn L 257) := by
  unfold badl
  rw [t1, t2, h256, accL]
  rintro (h | h | ⟨h, h'⟩)
  · cases h
  · omega
  rw [accD (duse h')] at h; cases h
 rw [if_neg hbad, t1, t2]
 rw [List.length_append, List.length_append, List.length_append, List.length_append, low_len, low_len, low_len, h3l]
 have e4 : a + 5 + 5 + 4 + 3 * ctn (lst c) 4 + (st.flatMap (sbits c)).length = a + (5 + 5 + 4 + 3 * ctn (lst c) 4 + (st.flatMap (sbits c)).length) := by omega
 rw [e4]
theorem fixD_get {s : Nat} (h : s < 32) : fixD.getD s 0 = 5 := by unfold fixD; rw [List.getD_eq_getElem?_getD, tab_get h]; rfl
theorem fixL_get {s : Nat} (h : s < 288) : 1 ≤ fixL.getD s 0 := by
 unfold fixL; rw [List.getD_eq_getElem?_getD, tab_get h]
 show 1 ≤ fxl s
 unfold fxl; split <;> (try split) <;> (try split) <;> omega
theorem code_fix : Code fixL ∧ Code fixD := ⟨⟨fix_le.1, by rw [fix_kr.1]; decide⟩, ⟨fix_le.2, by rw [fix_kr.2]; decide⟩⟩
theorem code_own (lv : Nat) {ts : List Nat} (hl : ts.length ≤ 1000000) : Code (blL lv ts) ∧ Code (blD lv ts) := by
 obtain ⟨ga, gb, gc, gd, ge, gf, _⟩ := bl_ok lv hl
 exact ⟨⟨gc, ge⟩, ⟨gd, gf⟩⟩
theorem has_own {lv : Nat} {ts : List Nat} (hl : ts.length ≤ 1000000) (htk : ∀ t ∈ ts, Tok t) : (∀ t ∈ ts, Has (blL lv ts) (blD lv ts) t) ∧ 1 ≤ (blL lv ts).getD 256 0 := by
  by_cases h1 : lv = 1
  · subst h1
    refine ⟨fun t ht => ?_, fixL_get (by decide)⟩
    unfold Has
    rw [show blL 1 ts = fixL from rfl, show blD 1 ts = fixD from rfl]
    split
    · exact fixL_get (by omega)
    rcases htk t ht with h | ⟨a1, a2, a3, a4⟩
    · omega
    have := lsy_spec a1 a2; have := dsy_spec a3 a4
    exact ⟨fixL_get (by omega), by rw [fixD_get (by omega)]; decide⟩
  have p1 : ∀ f ∈ fql ts, f ≤ 1099511627776 := fun n hn => by have := fql_bd ts n hn; omega
  have p2 : ∀ f ∈ fqd ts, f ≤ 1099511627776 := fun n hn => by have := fqd_bd ts n hn; omega
  have q1 := fql_len ts
  have q2 := fqd_len ts
  obtain ⟨_, _, g3, _, _⟩ := oln_law (fs := fql ts) (m := 15) (by decide) (by decide) p1 (by omega) (by omega)
  obtain ⟨_, _, d3, _, _⟩ := oln_law (fs := fqd ts) (m := 15) (by decide) (by decide) p2 (by omega) (by omega)
  have e1 : blL lv ts = oln (fql ts) 15 := by unfold blL; rw [if_neg h1]
  have e2 : blD lv ts = oln (fqd ts) 15 := by unfold blD; rw [if_neg h1]
  have f256 : 0 < (fql ts).getD 256 0 := by
    have h1 := cnl_mono (ts.map lsm) ((List.replicate 286 0).set 256 1) 256
    have h2 : ((List.replicate 286 0).set 256 1).getD 256 0 = 1 := by
      rw [List.getD_eq_getElem?_getD, List.getElem?_set_self (by rw [List.length_replicate]; decide)]; rfl
    unfold fql; omega
  rw [e1, e2]
  refine ⟨fun t ht => ?_, (g3 256 (by omega)).1.1 f256⟩
  have hls : ∀ s, s ∈ ts.map lsm → s < 286 → 1 ≤ (oln (fql ts) 15).getD s 0 := fun s hs hs2 => (g3 s (by omega)).1.1 (cnl_pos hs (by rw [List.length_set, List.length_replicate]; exact hs2))
  have hlt := hls (lsm t) (List.mem_map_of_mem ht)
  unfold Has
  unfold lsm at hlt
  split
  · rename_i h; rw [if_pos h] at hlt; exact hlt (by omega)
  rename_i h
  rw [if_neg h] at hlt
  rcases htk t ht with h' | ⟨a1, a2, a3, a4⟩
  · omega
  have hL := lsy_spec a1 a2; have hD := dsy_spec a3 a4
  refine ⟨hlt (by omega), (d3 _ (by omega)).1.1 (cnl_pos ?_ (by rw [List.length_replicate]; omega))⟩
  unfold dsms
  exact List.mem_map_of_mem (f := fun t => dsy (t % 65536)) (List.mem_filter.2 ⟨ht, by rw [decide_eq_true_eq]; omega⟩)
theorem kin_read {l p : List UInt8} {lv lim : Nat} (hlv : lv = 1 ∨ lv = 2) (hl : l.length ≤ 32768) {B r : List Bool} {a : Nat} (ha : a ≤ B.length)
    (hB : B.drop a = hdv lv (toks l 0) ++ (tbs (blL lv (toks l 0)) (blD lv (toks l 0)) (toks l 0) ++ (btv (Pf.code (blL lv (toks l 0)) 256) ((blL lv (toks l 0)).getD 256 0) ++ r))) :
    rkin lim p [] lv B a = if l.length ≤ lim then .ok (l, a + (hdv lv (toks l 0)).length + (tbs (blL lv (toks l 0)) (blD lv (toks l 0)) (toks l 0)).length + (blL lv (toks l 0)).getD 256 0) else .error 4 := by
  have htl := toks_len l 0
  have htk := toks_tok hl
  obtain ⟨hh, hend⟩ := has_own (lv := lv) (ts := toks l 0) (by omega) htk
  obtain ⟨hcL, hcD⟩ := code_own lv (ts := toks l 0) (by omega)
  unfold rkin
  rw [if_neg (by omega)]
  by_cases h1 : lv = 1
  · subst h1
    rw [if_pos rfl]
    have := tk_toks (lim := lim) hcL hcD hl hend 0 a (Nat.zero_le _) (Nat.zero_le _) hh hB ha
    rw [List.take_zero] at this
    exact this
  obtain rfl : lv = 2 := by omega
  rw [if_neg (by decide), if_pos rfl]
  have hhd : hdv 2 (toks l 0) = hdr (oln (fql (toks l 0)) 15) (oln (fqd (toks l 0)) 15) := rfl
  have hL : blL 2 (toks l 0) = oln (fql (toks l 0)) 15 := rfl
  have hD : blD 2 (toks l 0) = oln (fqd (toks l 0)) 15 := rfl
  rw [hhd] at hB ⊢
  have r1 := own_read (by omega) ha hB
  have k1 := drop_more hB
  have v1 := (cut_own B _ _ _ ha r1).2.1
  rw [bnd_ok r1]
  rw [hL, hD] at *
  have t1 := trm_get (oln (fql (toks l 0)) 15) 257
  have t2 := trm_get (oln (fqd (toks l 0)) 15) 1
  rw [← tb_trim t1 t2, ← code_trim t1 256, ← t1 256] at k1
  have c1 : Code (trm (oln (fql (toks l 0)) 15) 257) := ⟨trm_mem hcL.le, by rw [trm_kr]; exact hcL.kr⟩
  have c2 : Code (trm (oln (fqd (toks l 0)) 15) 1) := ⟨trm_mem hcD.le, by rw [trm_kr]; exact hcD.kr⟩
  have := tk_toks (lim := lim) c1 c2 hl (by rw [t1]; exact hend) 0 _ (Nat.zero_le _) (Nat.zero_le _) (fun t ht => by have := hh t ht; unfold Has at this ⊢; simp only [t1, t2]; exact this) k1 v1
  rw [List.take_zero, tb_trim t1 t2, t1] at this
  exact this
theorem cb_split (lv : Nat) (ts : List Nat) (r : List Bool) : cbits lv ts ++ r = low 1 1 ++ (low lv 2 ++ (hdv lv ts ++ (tbs (blL lv ts) (blD lv ts) ts ++ (btv (Pf.code (blL lv ts) 256) ((blL lv ts).getD 256 0) ++ r)))) := by
 unfold cbits; simp only [List.append_assoc]
theorem cb_len (lv : Nat) (ts : List Nat) : (cbits lv ts).length = 3 + (hdv lv ts).length + (tbs (blL lv ts) (blD lv ts) ts).length + (blL lv ts).getD 256 0 := by
 unfold cbits; simp only [List.length_append, low_len, btv_len]
theorem blk_read {l p : List UInt8} {lv lim : Nat} (hlv : lv = 1 ∨ lv = 2) (hl : l.length ≤ 32768) {B r : List Bool} (hB : B = cbits lv (toks l 0) ++ r) :
    rblk lim p [] B 0 = if l.length ≤ lim then .ok ((1, l), (cbits lv (toks l 0)).length) else .error 4 := by
  have h0 : B.drop 0 = cbits lv (toks l 0) ++ r := by rw [List.drop_zero, hB]
  rw [cb_split] at h0
  have r1 := rbits_ok h0 (show 1 < 2 ^ 1 by decide) (Nat.zero_le _)
  have k1 := drop_more h0
  have v1 := (cut_bits _ B _ _ _ (Nat.zero_le _) r1).2.1
  rw [low_len] at k1
  have r2 := rbits_ok k1 (show lv < 2 ^ 2 by omega) v1
  have k2 := drop_more k1
  have v2 := (cut_bits _ B _ _ _ v1 r2).2.1
  rw [low_len] at k2
  have r3 := kin_read (p := p) (lim := lim) hlv hl v2 k2
  unfold rblk
  rw [bnd_ok r1, bnd_ok r2]
  by_cases c : l.length ≤ lim
  · rw [if_pos c] at r3 ⊢
    rw [bnd_ok r3, cb_len]
  rw [if_neg c] at r3 ⊢
  rw [bnd_err r3]
theorem bv_add (f : Nat → Bool) (n : Nat) : ∀ m, bv f (n + m) = bv f n + 2 ^ n * bv (fun i => f (n + i)) m
 | 0 => by simp [bv]
 | m + 1 => by
  rw [← Nat.add_assoc, bv, bv_add f n m, bv, Nat.mul_add, Nat.add_assoc]
  congr 2
  split
  · rw [Nat.pow_add]
  rfl
theorem bs_byte {p : List UInt8} {j : Nat} (h : j < p.length) : bs (ub p) (8 * j) 8 = (p.getD j 0).toNat := by
 unfold bs
 rw [bv_congr (g := bit (p.getD j 0).toNat) (fun i hi => by rw [ub_getD (by omega), show (8 * j + i) / 8 = j by omega, show (8 * j + i) % 8 = i by omega]), bv_bit]
 have := (p.getD j 0).toNat_lt
 omega
theorem bs_two {p : List UInt8} {j : Nat} (h : j + 1 < p.length) : bs (ub p) (8 * j) 16 = (p.getD j 0).toNat + 256 * (p.getD (j + 1) 0).toNat := by
 have h1 := bs_byte (p := p) (j := j) (by omega)
 have h2 := bs_byte (p := p) (j := j + 1) h
 unfold bs at h1 h2 ⊢
 rw [show 16 = 8 + 8 from rfl, bv_add, h1]
 have : bv (fun i => (fun i => (ub p).getD (8 * j + i) false) (8 + i)) 8 = (p.getD (j + 1) 0).toNat := by
  rw [← h2]
  exact bv_congr fun i _ => by show (ub p).getD (8 * j + (8 + i)) false = _; rw [show 8 * j + (8 + i) = 8 * (j + 1) + i by omega]
 rw [this]
theorem xor_not {n : Nat} (h : n < 65536) : n ^^^ (65535 - n) = 65535 := by
 have h1 : (BitVec.ofNat 16 n ^^^ ~~~ (BitVec.ofNat 16 n)).toNat = 65535 := by
  have : BitVec.ofNat 16 n ^^^ ~~~ (BitVec.ofNat 16 n) = BitVec.allOnes 16 := by
   rw [← BitVec.allOnes_xor, BitVec.xor_comm, BitVec.xor_assoc, BitVec.xor_self, BitVec.xor_zero]
  rw [this]; decide
 rw [BitVec.toNat_xor, BitVec.toNat_not, BitVec.toNat_ofNat, Nat.mod_eq_of_lt h] at h1
 exact h1
theorem sto_read {l m : List UInt8} {lim : Nat} (hl : l.length ≤ 65535) : rinf lim (sto l ++ m) [] (ub (sto l ++ m)) 0 = if l.length ≤ lim then .ok (l, 8 * (sto l).length) else .error 4 := by
  have hsl : (sto l).length = l.length + 5 := by simp only [sto, List.length_append, List.length_cons, List.length_nil]; omega
  obtain ⟨p, hp⟩ : ∃ p, p = sto l ++ m := ⟨_, rfl⟩
  have hpl : p.length = l.length + 5 + m.length := by rw [hp, List.length_append, hsl]
  have g0 : p.getD 0 0 = 1 := by rw [hp]; rfl
  have g1 : (p.getD 1 0).toNat = l.length % 256 := by rw [hp]; show (UInt8.ofNat l.length).toNat = _; simp
  have g2 : (p.getD 2 0).toNat = l.length / 256 % 256 := by rw [hp]; show (UInt8.ofNat (l.length / 256)).toNat = _; simp
  have g3 : (p.getD 3 0).toNat = 255 - l.length % 256 := by rw [hp]; show (UInt8.ofNat (255 - l.length % 256)).toNat = _; simp; omega
  have g4 : (p.getD 4 0).toNat = 255 - l.length / 256 % 256 := by rw [hp]; show (UInt8.ofNat (255 - l.length / 256 % 256)).toNat = _; simp; omega
  have hd : p.drop 5 = l ++ m := by rw [hp]; rfl
  rw [← hp]
  have hul := ub_len p
  have u0 : ∀ i, i < 8 → (ub p).getD i false = bit 1 i := fun i hi => by
    rw [ub_getD (by omega), show i / 8 = 0 by omega, show i % 8 = i by omega, g0]; rfl
  have r1 : rbits 1 (ub p) 0 = .ok (1, 0 + 1) := by
    rw [rbits, if_neg (by omega)]
    have : bs (ub p) 0 1 = 1 := by unfold bs; rw [bv_congr (g := bit 1) (fun i hi => by rw [Nat.zero_add, u0 i (by omega)])]; rfl
    rw [this]
  have r2 : rbits 2 (ub p) (0 + 1) = .ok (0, 0 + 1 + 2) := by
    rw [rbits, if_neg (by omega)]
    have : bs (ub p) (0 + 1) 2 = 0 := by unfold bs; rw [bv_congr (g := fun i => bit 1 (1 + i)) (fun i hi => by rw [Nat.zero_add, u0 _ (by omega)])]; decide
    rw [this]
  have r3 : rbits 16 (ub p) ((0 + 1 + 2 + 7) / 8 * 8) = .ok (l.length, 24) := by
    rw [show (0 + 1 + 2 + 7) / 8 * 8 = 8 * 1 from rfl, rbits, if_neg (by omega), bs_two (by omega), g1, g2]
    congr 2; omega
  have r4 : rbits 16 (ub p) 24 = .ok (65535 - l.length, 40) := by
    rw [show (24 : Nat) = 8 * 3 from rfl, rbits, if_neg (by omega), bs_two (by omega), g3, g4]
    congr 2; omega
  have hk : rkin lim p [] 0 (ub p) (0 + 1 + 2) = if l.length ≤ lim then .ok (l, 40 + 8 * l.length) else .error 4 := by
    unfold rkin
    rw [if_pos rfl]
    unfold rsto
    rw [r3]; simp only; rw [r4]; simp only
    rw [if_neg (fun h => h (xor_not (by omega)))]
    by_cases c : l.length ≤ lim
    · rw [if_pos c, if_neg (by simp; omega), if_neg (by omega), show 40 / 8 = 5 from rfl, hd, List.take_left]; rfl
    rw [if_neg c, if_pos (by simp; omega)]
  by_cases c : l.length ≤ lim
  · rw [if_pos c] at hk ⊢
    have hb : rblk lim p [] (ub p) 0 = .ok ((1, l), 40 + 8 * l.length) := by
      unfold rblk; rw [bnd_ok r1, bnd_ok r2, bnd_ok hk]
    rw [rinf_last hb, hsl]; congr 2; omega
  rw [if_neg c] at hk ⊢
  have hb : rblk lim p [] (ub p) 0 = .error 4 := by
    unfold rblk; rw [bnd_ok r1, bnd_ok r2, bnd_err hk]
  exact rinf_err hb
theorem inf_cmp {l m : List UInt8} {lv lim : Nat} (hlv : lv ≤ 2) (hl : l.length ≤ 32768) : rinf lim (cmp l lv ++ m) [] (ub (cmp l lv ++ m)) 0 = if l.length ≤ lim then .ok (l, if lv = 0 then 8 * (sto l).length else (cbits lv (toks l 0)).length) else .error 4 := by
 unfold cmp
 by_cases h0 : lv = 0
 · rw [if_pos h0, if_pos h0]; exact sto_read (by omega)
 rw [if_neg h0, if_neg h0]
 have hB : ub (pk (cbits lv (toks l 0)) ++ m) = cbits lv (toks l 0) ++ (List.replicate (8 * (((cbits lv (toks l 0)).length + 7) / 8) - (cbits lv (toks l 0)).length) false ++ ub m) := by
  rw [ub_app, ub_pk, List.append_assoc]
 have hb := blk_read (p := pk (cbits lv (toks l 0)) ++ m) (lim := lim) (show lv = 1 ∨ lv = 2 by omega) hl hB
 by_cases c : l.length ≤ lim
 · rw [if_pos c] at hb ⊢; rw [rinf_last hb]
 rw [if_neg c] at hb ⊢; rw [rinf_err hb]
theorem cmp_bytes (l : List UInt8) (lv : Nat) : ((if lv = 0 then 8 * (sto l).length else (cbits lv (toks l 0)).length) + 7) / 8 = (cmp l lv).length := by
 unfold cmp
 by_cases h0 : lv = 0
 · rw [if_pos h0, if_pos h0]; omega
 rw [if_neg h0, if_neg h0, pk_len]
end Df
end Go.Proofs.YtajklleiifhipaaGreatDoor
namespace Go.Proofs.YtajklleiifhipaaGreatDoor
open Go.RowKit Sym
namespace Sym
def isN : Value → Bool
 | .slice none _ _ => true
 | _ => false
section
variable {P : Program} {ops : Array Oper} {Q : Exit → Act → World → Prop} {s : St} {env : Env} {w w0 : World} {S : Nat → Prop} {rs : List Rg} {rest : List Oper} {d : Nat} {ty : TypeId} {pos : String} {aft : Array Edge}
theorem E.eqnilS {t t2 e : TypeId} {x y : Operand} {v : Value} (hx : ev env x = some v) (hv : ∃ a n cap, v = .slice a n cap) (hy : ev env y = some (.slice none 0 0)) (ht : P.underlying t = some (.slice e))
  (hd : Nat.blt d s.n = true) (h : wpE P ops Q s rest ((d, .bool (decide (isN v = true))) :: env) w) : wpE P ops Q s (⟨some d, .binOp .eql t x y t2, ty, pos, aft, none⟩ :: rest) env w := by
 obtain ⟨a, n, cap, rfl⟩ := hv
 refine E.op (fun a' ha => ?_) hd h
 have h1 : (Op.equal t (.slice a n cap) (.slice none 0 0)).run P w = .ok (decide (isN (.slice a n cap) = true)) w := by
  show (Op.equalIn (9999 + 1) t (.slice a n cap) (.slice none 0 0)).run P w = _
  unfold Op.equalIn
  rw [Sem.run_bind, run_underlying ht]
  cases a <;> rfl
 have h2 : (binOp .eql t (.slice a n cap) (.slice none 0 0)).run P w = .ok (.bool (decide (isN (.slice a n cap) = true))) w := by simp only [binOp]; simp [h1]
 simp only [execOp, ha.ev hx, ha.ev hy, eqGuard]
 simp [h2]
end
end Sym
def Fx (fv : Value) (F : List Rg) : Prop := (fv = .slice none 0 0 ∧ F = []) ∨ ∃ (bl bd : Nat) (vl vd : Value), F = [Rg.sl pv 141 fv [bl, bd], Sym.Ax bl 174 16 (fun n => (Df.cn Df.fixL n : Int)) [vl, i64 (Df.mx Df.fixL : Int)], Rg.sl i64 3 vl (nz (Pf.od Df.fixL)), Sym.Ax bd 174 16 (fun n => (Df.cn Df.fixD n : Int)) [vd, i64 (Df.mx Df.fixD : Int)], Rg.sl i64 3 vd (nz (Pf.od Df.fixD))]
theorem Fx.shape {w0 w : World} {S : Nat → Prop} {fv : Value} {F : List Rg} {r q : Rg} (h : Fx fv F) (hM : M w0 S w (r :: q :: F)) : ∃ a n cap, fv = .slice a n cap := by
 rcases h with ⟨rfl, _⟩ | ⟨bl, bd, vl, vd, rfl⟩
 · exact ⟨_, _, _, rfl⟩
 obtain ⟨cap, h⟩ := Rd.hd (hM.sl 2 rfl) (by simp)
 exact ⟨_, _, _, h⟩
theorem Fx.isN {w0 w : World} {S : Nat → Prop} {fv : Value} {F : List Rg} {r q : Rg} (h : Fx fv F) (hM : M w0 S w (r :: q :: F)) (hn : Sym.isN fv = true) : fv = .slice none 0 0 ∧ F = [] := by
 rcases h with h | ⟨bl, bd, vl, vd, rfl⟩
 · exact h
 obtain ⟨cap, h⟩ := Rd.hd (hM.sl 2 rfl) (by simp)
 rw [h] at hn; exact absurd hn (by simp [Sym.isN])
theorem Fx.some {fv : Value} {F : List Rg} (h : Fx fv F) (hn : ¬ Sym.isN fv = true) : ∃ (bl bd : Nat) (vl vd : Value), F = [Rg.sl pv 141 fv [bl, bd], Sym.Ax bl 174 16 (fun n => (Df.cn Df.fixL n : Int)) [vl, i64 (Df.mx Df.fixL : Int)], Rg.sl i64 3 vl (nz (Pf.od Df.fixL)), Sym.Ax bd 174 16 (fun n => (Df.cn Df.fixD n : Int)) [vd, i64 (Df.mx Df.fixD : Int)], Rg.sl i64 3 vd (nz (Pf.od Df.fixD))] := by
 rcases h with ⟨rfl, _⟩ | h
 · exact (hn rfl).elim
 exact h
theorem M_no0 {w0 w : World} {S : Nat → Prop} {rs : List Rg} (h : M w0 S w rs) (hO : Ord w0) (hn : ¬ S 0) : ¬ fpU rs 0 := fun ⟨i, r, hi, hk⟩ => by
 rcases h.mine i r hi 0 hk with h1 | h1
 · exact hn h1
 have := hO.lt; omega
namespace Df
theorem rblk_e1 {lim : Nat} {p out : List UInt8} {B : List Bool} {a : Nat} {e : Int} (h : rbits 1 B a = .error e) : rblk lim p out B a = .error e := by unfold rblk; rw [bnd_err h]
theorem rblk_e2 {lim : Nat} {p out : List UInt8} {B : List Bool} {a a1 x : Nat} {e : Int} (h : rbits 1 B a = .ok (x, a1)) (h2 : rbits 2 B a1 = .error e) : rblk lim p out B a = .error e := by unfold rblk; rw [bnd_ok h, bnd_err h2]
theorem rblk_rd {lim : Nat} {p out o : List UInt8} {B : List Bool} {a a1 a2 a' x k : Nat} {e : Int} (h : rbits 1 B a = .ok (x, a1)) (h2 : rbits 2 B a1 = .ok (k, a2)) (h3 : Rds (rkin lim p out k B a2) o a' e) : Rds (rblk lim p out B a) (x, o) a' e := by
 unfold rblk
 rw [bnd_ok h, bnd_ok h2]
 rcases h3 with ⟨rfl, h3⟩ | ⟨he, h3⟩
 · exact .ok (by rw [bnd_ok h3])
 exact .err he (by rw [bnd_err h3])
end Df
set_option maxHeartbeats 4000000 in
set_option maxRecDepth 4000 in
theorem sblock_ret (out : List UInt8) (F : List Rg) (b a lim : Nat) (p vo fv : Value) (l : List UInt8) (w : World) (hs : Sep w (Rg.blk b 102 [p, i64 ((a : Nat) : Int), i64 (lim : Int), vo, fv] :: Rg.sl u8 5 vo out :: F)) (hp : RdL u8 w p l) (ho : Off (fpU (Rg.blk b 102 [p, i64 ((a : Nat) : Int), i64 (lim : Int), vo, fv] :: Rg.sl u8 5 vo out :: F)) p l) (ha : a ≤ 8 * l.length) (hl : l.length ≤ 1099511627776) (hol : out.length ≤ lim) (hlim : lim ≤ 16777216) (hO : Ord w) (hn0 : ¬ fpU (Rg.blk b 102 [p, i64 ((a : Nat) : Int), i64 (lim : Int), vo, fv] :: Rg.sl u8 5 vo out :: F) 0) (hF : Fx fv F) :
  Ret Tryz.prog 79 #[pv b] w fun v w' => ∃ (vo' fv' : Value) (out' : List UInt8) (F' : List Rg) (a' x : Nat) (e : Int), v = .tuple #[.bool (decide ((x : Int) = 1)), i64 e] ∧ M w (fpU (Rg.blk b 102 [p, i64 ((a : Nat) : Int), i64 (lim : Int), vo, fv] :: Rg.sl u8 5 vo out :: F)) w' (Rg.blk b 102 [p, i64 ((a' : Nat) : Int), i64 (lim : Int), vo', fv'] :: Rg.sl u8 5 vo' out' :: F') ∧ Fx fv' F' ∧ Rds (Df.rblk lim l out (Df.ub l) a) (x, out') a' e ∧ out'.length ≤ lim := by
 have hM := M.startS hs
 refine enter Tryz.func79 rfl (by kernel_rfl) Tryz.ntmps79 rfl $ Kb $ Kn rfl $ Kd rfl $ Km rfl $ ?_
 have hul := Df.ub_len l
 refine E.call rfl rfl (sbits_ret 1 b a lim p vo fv l _ (hM.pick [0] (by decide)).sep (hM.arg hp ho) ((hM.pick [0] (by decide)).offS hp ho) (by omega) hl (by omega)) ?_
 rintro _ w1 ⟨x1, a1, e1, rfl, m, hr1⟩
 have hM := hM.calls [0] (by decide) rfl (by simp) m
 try dsimp only [Za, Zb, Zc, Zd, repl] at hM
 try simp only [List.append_nil] at hM
 try dsimp only [Za, Zb, Zc, Zd, repl] at hM
 refine Km rfl $ E.ext rfl rfl rfl $ E.ext rfl rfl rfl $ Kn rfl $ Kc rfl $ C.seq $ Kb $ Km rfl $ Kp rfl $ Ka $ C.cond' rfl (fun hC0 => ?_) (fun hC0 => ?_)
 ·
  refine Kb $ Km rfl $ Kn rfl $ Kc rfl $ C.ret $ X.retT $ ret2 rfl rfl rfl ?_
  exact ⟨vo, fv, out, F, a1, 0, e1, rfl, hM, hF, .err hC0 (Df.rblk_e1 (hr1.bad hC0)), hol⟩
 have hq1 := hr1.good hC0
 obtain ⟨hx1, he1, hb1⟩ := rbits_lt hq1
 refine Kk $ Kb $ Km rfl $ E.call rfl rfl (sbits_ret 2 b a1 lim p vo fv l _ (hM.pick [0] (by decide)).sep (hM.arg hp ho) ((hM.pick [0] (by decide)).offS hp ho) (by omega) hl (by omega)) ?_
 rintro _ w2 ⟨x2, a2, e2, rfl, m, hr2⟩
 have hM := hM.calls [0] (by decide) rfl (by simp) m
 try dsimp only [Za, Zb, Zc, Zd, repl] at hM
 try simp only [List.append_nil] at hM
 try dsimp only [Za, Zb, Zc, Zd, repl] at hM
 refine Km rfl $ E.ext rfl rfl rfl $ E.ext rfl rfl rfl $ Kn rfl $ Kc rfl $ C.seq $ Kb $ Km rfl $ Kp rfl $ Ka $ C.cond' rfl (fun hC1 => ?_) (fun hC1 => ?_)
 ·
  refine Kb $ Km rfl $ Kn rfl $ Kc rfl $ C.ret $ X.retT $ ret2 rfl rfl rfl ?_
  exact ⟨vo, fv, out, F, a2, 0, e2, rfl, hM, hF, .err hC1 (Df.rblk_e2 hq1 (hr2.bad hC1)), hol⟩
 have hq2 := hr2.good hC1
 obtain ⟨hx2, he2, hb2⟩ := rbits_lt hq2
 have hx4 : x2 < 4 := hx2
 refine Kk $ C.cut6 [(4, _)] rfl (fun (voq : Value) (fvq : Value) (outq : (List UInt8)) (Fq : (List Rg)) (aq : Nat) (e : Int) => [(5, i64 e)]) (fun (voq : Value) (fvq : Value) (outq : (List UInt8)) (Fq : (List Rg)) (aq : Nat) (e : Int) w' => M w (fpU (Rg.blk b 102 [p, i64 ((a : Nat) : Int), i64 (lim : Int), vo, fv] :: Rg.sl u8 5 vo out :: F)) w' (Rg.blk b 102 [p, i64 ((aq : Nat) : Int), i64 (lim : Int), voq, fvq] :: Rg.sl u8 5 voq outq :: Fq) ∧ Fx fvq Fq ∧ Rds (Df.rkin lim l out x2 (Df.ub l) a2) outq aq e ∧ outq.length ≤ lim) ?_ ?_
 ·
  refine Kb $ Km rfl $ Ka $ C.block $ Kb $ Kp rfl $ Kc rfl $ C.cond' rfl (fun hC2 => ?_) (fun hC2 => ?_)
  ·
   obtain rfl : x2 = 0 := by omega
   refine C.region $ Km rfl $ E.call rfl rfl (sstored_ret out b a2 lim p vo fv l _ (hM.pick [0, 1] (by decide)).sep (hM.arg hp ho) ((hM.pick [0, 1] (by decide)).offS hp ho) (by omega) hl hol hlim) ?_
   rintro _ w3 ⟨vo3, out3, a3, e3, rfl, m, hr3, hol3⟩
   have hM := hM.calls [0, 1] (by decide) rfl (by simp) m
   try dsimp only [Za, Zb, Zc, Zd, repl] at hM
   try simp only [List.append_nil] at hM
   try dsimp only [Za, Zb, Zc, Zd, repl] at hM
   refine Kn rfl $ E.nil $ X.outN $ X.join6 vo3 fv out3 F a3 e3 (S1 rfl) rfl ⟨hM, hF, by unfold Df.rkin; rw [if_pos rfl]; exact hr3, hol3⟩
  refine Kb $ Kp rfl $ Kc rfl $ C.cond' rfl (fun hC3 => ?_) (fun hC3 => ?_)
  ·
   obtain rfl : x2 = 1 := by omega
   refine C.cut5 [(0, _), (4, _)] rfl (fun (fv1 : Value) (bl : Nat) (bd : Nat) (vl : Value) (vd : Value) => []) (fun (fv1 : Value) (bl : Nat) (bd : Nat) (vl : Value) (vd : Value) w' => M w (fpU (Rg.blk b 102 [p, i64 ((a : Nat) : Int), i64 (lim : Int), vo, fv] :: Rg.sl u8 5 vo out :: F)) w' [Rg.blk b 102 [p, i64 ((a2 : Nat) : Int), i64 (lim : Int), vo, fv1], Rg.sl u8 5 vo out, Rg.sl pv 141 fv1 [bl, bd], Sym.Ax bl 174 16 (fun n => (Df.cn Df.fixL n : Int)) [vl, i64 (Df.mx Df.fixL : Int)], Rg.sl i64 3 vl (nz (Pf.od Df.fixL)), Sym.Ax bd 174 16 (fun n => (Df.cn Df.fixD n : Int)) [vd, i64 (Df.mx Df.fixD : Int)], Rg.sl i64 3 vd (nz (Pf.od Df.fixD))]) ?_ ?_
   ·
    refine Kb $ Km rfl $ E.nilc rfl rfl $ E.fld (o := 4) (sz := 0) rfl U102 rfl rfl (by kernel_rfl) rfl $ E.load rfl Tryz.underlying100 rfl (hM.bcell 0 rfl rfl) rfl $ E.eqnilS rfl (hF.shape hM) rfl Tryz.underlying100 rfl $ Ka $ C.cond rfl (fun hC4 => ?_) (fun hC4 => ?_)
    ·
     obtain ⟨rfl, rfl⟩ := hF.isN hM (by simpa using hC4)
     refine Kb $ E.call rfl rfl (fixedLengths_ret _) ?_
     rintro _ w5 ⟨fl, fd, rfl, m⟩
     have hM := hM.call m
     try dsimp only [Za, Zb, Zc, Zd, repl] at hM
     try simp only [List.append_nil] at hM
     try dsimp only [Za, Zb, Zc, Zd, repl] at hM
     refine Km rfl $ E.ext rfl rfl rfl $ E.ext rfl rfl rfl $ Kn rfl $ Kc rfl $ C.region $ Kf rfl $ E.call rfl rfl (newDecoder_ret fl Df.fixL _ (hM.sl 2 rfl) (by decide) (by decide) Df.fix_le.1) ?_
     rintro _ w6 ⟨b43, vs43, rfl, m⟩
     have hM := hM.call m
     try dsimp only [Za, Zb, Zc, Zd, repl] at hM
     try simp only [List.append_nil] at hM
     try dsimp only [Za, Zb, Zc, Zd, repl] at hM
     refine Km rfl $ E.call rfl rfl (newDecoder_ret fd Df.fixD _ (hM.sl 3 rfl) (by decide) (by decide) Df.fix_le.2) ?_
     rintro _ w7 ⟨b45, vs45, rfl, m⟩
     have hM := hM.call m
     try dsimp only [Za, Zb, Zc, Zd, repl] at hM
     try simp only [List.append_nil] at hM
     try dsimp only [Za, Zb, Zc, Zd, repl] at hM
     refine E.mkM (enc := pv) (e := 141) [b43, b45] hM rfl (fun _ => by kernel_rfl) rfl rfl rfl ?_
     intro v46 w6 hM
     try dsimp only [Za, Zb, Zc, Zd, repl] at hM
     refine E.nilc rfl rfl $ E.fld (o := 4) (sz := 0) rfl U102 rfl rfl (by kernel_rfl) rfl $ E.storeM 0 hM rfl rfl rfl (by kernel_rfl) (hM.sl 8 rfl).one rfl ?_
     intro w7 hM
     try dsimp only [Za, Zb, Zc, Zd, repl] at hM
     refine E.nil $ X.join5 v46 b43 b45 vs43 vs45 (Sub.nil _) rfl (hM.pick [0, 1, 8, 4, 5, 6, 7] (by decide))
    obtain ⟨bl, bd, vl, vd, rfl⟩ := hF.some (by simpa using hC4)
    refine C.skip $ X.join5 fv bl bd vl vd (Sub.nil _) rfl hM
   rintro fv1 bl bd vl vd w8 hM
   refine C.drawnT 13 (by kernel_rfl) (by kernel_rfl) fun wh9 hwh9 => ?_
   have hM := hM.ext hwh9
   refine S.mv rfl rfl $ S.mv rfl rfl $ S.nilc rfl rfl $ S.fld (o := 4) (sz := 0) rfl U102 rfl rfl (by kernel_rfl) rfl $ S.load rfl Tryz.underlying100 rfl (by exact hM.bcell 0 rfl rfl) rfl $ S.idx1 (k := 0) rfl rfl (by exact hM.sl 2 rfl) rfl (by (simp only [List.length_replicate, List.length_append, List.length_set, List.length_cons, List.length_nil, List.length_map, List.length_range, List.length_take, List.length_drop, List.length_zipWith] at *; omega)) Tryz.underlying100 (by kernel_rfl) rfl $ S.load rfl Tryz.underlying141 rfl (by exact (hM.sl 2 rfl).cellA rfl (by (simp only [List.length_replicate, List.length_append, List.length_set, List.length_cons, List.length_nil, List.length_map, List.length_range, List.length_take, List.length_drop, List.length_zipWith] at *; omega))) rfl $ S.mv rfl rfl $ S.nilc rfl rfl $ S.fld (o := 4) (sz := 0) rfl U102 rfl rfl (by kernel_rfl) rfl $ S.load rfl Tryz.underlying100 rfl (by exact hM.bcell 0 rfl rfl) rfl $ S.idx1 (k := 1) rfl rfl (by exact hM.sl 2 rfl) rfl (by (simp only [List.length_replicate, List.length_append, List.length_set, List.length_cons, List.length_nil, List.length_map, List.length_range, List.length_take, List.length_drop, List.length_zipWith] at *; omega)) Tryz.underlying100 (by kernel_rfl) rfl $ S.load rfl Tryz.underlying141 rfl (by exact (hM.sl 2 rfl).cellA rfl (by (simp only [List.length_replicate, List.length_append, List.length_set, List.length_cons, List.length_nil, List.length_map, List.length_range, List.length_take, List.length_drop, List.length_zipWith] at *; omega))) rfl ?_
   refine S.nil $ E.call rfl rfl (stokens_ret bl bd vl vd Df.fixL Df.fixD out b a2 lim p vo fv1 l _ (hM.pick [0, 1, 3, 4, 5, 6] (by decide)).sep (hM.arg hp ho) ((hM.pick [0, 1, 3, 4, 5, 6] (by decide)).offS hp ho) (by omega) hl Df.code_fix.1 Df.code_fix.2 (by rw [Df.fix_len.1]; decide) (by rw [Df.fix_len.2]; decide) hol hlim) ?_
   rintro _ w9 ⟨vo3, out3, a3, e3, rfl, m, hr3, hol3⟩
   have hM := hM.calls [0, 1, 3, 4, 5, 6] (by decide) rfl (by simp) m
   try dsimp only [Za, Zb, Zc, Zd, repl] at hM
   try simp only [List.append_nil] at hM
   try dsimp only [Za, Zb, Zc, Zd, repl] at hM
   refine Kn rfl $ E.nil $ X.outN $ X.join6 vo3 fv1 out3 [Rg.sl pv 141 fv1 [bl, bd], Sym.Ax bl 174 16 (fun n => (Df.cn Df.fixL n : Int)) [vl, i64 (Df.mx Df.fixL : Int)], Rg.sl i64 3 vl (nz (Pf.od Df.fixL)), Sym.Ax bd 174 16 (fun n => (Df.cn Df.fixD n : Int)) [vd, i64 (Df.mx Df.fixD : Int)], Rg.sl i64 3 vd (nz (Pf.od Df.fixD))] a3 e3 (S1 rfl) rfl ⟨hM, .inr ⟨bl, bd, vl, vd, rfl⟩, by unfold Df.rkin; rw [if_neg (by decide), if_pos rfl]; exact hr3, hol3⟩
  refine Kb $ Kp rfl $ Kc rfl $ C.cond' rfl (fun hC5 => ?_) (fun hC5 => ?_)
  ·
   obtain rfl : x2 = 2 := by omega
   refine C.region $ Km rfl $ E.call rfl rfl (sown_ret out b a2 lim p vo fv l _ (hM.pick [0, 1] (by decide)).sep (hM.arg hp ho) ((hM.pick [0, 1] (by decide)).offS hp ho) (by omega) hl hol hlim (hM.ord hO hn0) (M_no0 (hM.pick [0, 1] (by decide)) hO hn0)) ?_
   rintro _ w8 ⟨vo3, out3, a3, e3, rfl, m, hr3, hol3⟩
   have hM := hM.calls [0, 1] (by decide) rfl (by simp) m
   try dsimp only [Za, Zb, Zc, Zd, repl] at hM
   try simp only [List.append_nil] at hM
   try dsimp only [Za, Zb, Zc, Zd, repl] at hM
   refine Kn rfl $ E.nil $ X.outN $ X.join6 vo3 fv out3 F a3 e3 (S1 rfl) rfl ⟨hM, hF, by unfold Df.rkin; rw [if_neg (by decide), if_neg (by decide), if_pos rfl]; exact hr3, hol3⟩
  refine C.region $ Kn rfl $ E.nil $ X.outN $ X.join6 vo fv out F a2 9 (S1 rfl) rfl ⟨hM, hF, .err (by decide) (by unfold Df.rkin; rw [if_neg (by omega), if_neg (by omega), if_neg (by omega)]), hol⟩
 rintro voq fvq outq Fq aq e w12 ⟨hM, hF', hk, hol'⟩
 refine Kb $ Km rfl $ Kp rfl $ Km rfl $ Kn rfl $ Kc rfl $ C.ret $ ret2 rfl rfl rfl ?_
 exact ⟨voq, fvq, outq, Fq, aq, x1, e, rfl, hM, hF', Df.rblk_rd hq1 hq2 hk, hol'⟩
end Go.Proofs.YtajklleiifhipaaGreatDoor
namespace Go.Proofs.YtajklleiifhipaaGreatDoor
open Go.RowKit Sym
theorem Sym.M.callAll {w0 w w' : World} {S : Nat → Prop} {rs outs : List Rg} (h : M w0 S w rs) (k : M w (fpU rs) w' outs) : M w0 S w' outs where
 sep := k.sep
 mine := fun i r hi x hx => by
  rcases k.mine i r hi x hx with ⟨j, q, hj, hq⟩ | h1
  · exact h.mine j q hj x hq
  exact .inr (Nat.le_trans h.size h1)
 fr := h.fr.step k.fr fun x ⟨j, q, hj, hq⟩ => h.mine j q hj x hq
namespace Df
theorem rkin_adv {lim : Nat} {p out x : List UInt8} {k a e : Nat} (ha : a ≤ (ub p).length) (h : rkin lim p out k (ub p) a = .ok (x, e)) : a ≤ e ∧ e ≤ (ub p).length := by
  unfold rkin at h
  split at h
  · have := rsto_adv ha h; exact ⟨this.1, this.2.1⟩
  split at h
  · exact tk_adv ha h
  split at h
  · cases h1 : rown (ub p) a with
    | error z => rw [bnd_err h1] at h; cases h
    | ok q =>
      obtain ⟨⟨L, D⟩, a1⟩ := q
      rw [bnd_ok h1] at h
      have k1 := cut_own _ _ _ _ ha h1
      have k2 := tk_adv k1.2.1 h
      exact ⟨Nat.le_trans k1.1 k2.1, k2.2⟩
  cases h
theorem rblk_adv {lim : Nat} {p out o : List UInt8} {x a e : Nat} (ha : a ≤ (ub p).length) (h : rblk lim p out (ub p) a = .ok ((x, o), e)) : a < e ∧ e ≤ (ub p).length := by
 unfold rblk at h
 cases h1 : rbits 1 (ub p) a with
 | error z => rw [bnd_err h1] at h; cases h
 | ok q =>
  obtain ⟨y, a1⟩ := q
  rw [bnd_ok h1] at h
  obtain ⟨_, e1, b1⟩ := rbits_lt h1
  cases h2 : rbits 2 (ub p) a1 with
  | error z => rw [bnd_err h2] at h; cases h
  | ok q =>
   obtain ⟨k, a2⟩ := q
   rw [bnd_ok h2] at h
   obtain ⟨_, e2, b2⟩ := rbits_lt h2
   cases h3 : rkin lim p out k (ub p) a2 with
   | error z => rw [bnd_err h3] at h; cases h
   | ok q =>
    obtain ⟨o', a3⟩ := q
    rw [bnd_ok h3] at h
    cases h
    have := rkin_adv b2 h3
    omega
end Df
def InfV (r : Except Int (List UInt8 × Nat)) (out : List UInt8) (n : Nat) (e : Int) (m : Nat) : Prop := (e = 0 ∧ ∃ a, r = .ok (out, a) ∧ n = (a + 7) / 8 ∧ a ≤ 8 * m) ∨ (e ≠ 0 ∧ r = .error e ∧ out = [] ∧ n = 0)
set_option maxHeartbeats 4000000 in
set_option maxRecDepth 4000 in
theorem Inflate_ret (p : Value) (l : List UInt8) (x : Int) (w : World) (hp : RdL u8 w p l) (hO : Ord w) :
  Ret Tryz.prog 55 #[p, i64 x] w fun v w' => ∃ (vo : Value) (out : List UInt8) (n : Nat) (e : Int), v = .tuple #[vo, i64 n, i64 e] ∧ M w Nn w' [Rg.sl u8 5 vo out] ∧ InfV (Df.inf l x) out n e l.length := by
 have hM := M.start w
 refine enter Tryz.func55 rfl (by kernel_rfl) Tryz.ntmps55 rfl $ Kb $ Kn rfl $ Kn rfl $ Kc rfl $ C.seq $ C.chainE [(0, _), (1, _)] rfl [(15, .bool (decide (x < 0 ∨ 16777216 < x)))] ?_ ?_
 ·
  refine C.region $ Km rfl $ Kp rfl $ Km rfl $ E.split 12 rfl (fun g12 => ?_) (fun g12 => ?_)
  ·
   try simp only [Ya, Yb, Yc, Yd, Ye, Yf] at g12
   refine Kq rfl $ Kq rfl $ Kr rfl $ E.nil $ X.join0 (Sub.cons (by exact leaf_t (by omega)) $ Sub.nil _) rfl rfl
  try simp only [Ya, Yb, Yc, Yd, Ye, Yf] at g12
  refine Ko rfl $ Km rfl $ Ko rfl $ Kp rfl $ Kr rfl $ E.nil $ X.join0 (Sub.cons (by exact leaf_d (by omega)) $ Sub.nil _) rfl rfl
 refine C.cond' rfl (fun hC0 => ?_) (fun hC0 => ?_)
 ·
  refine Kb $ Kn rfl $ Kn rfl $ Kc rfl $ C.ret $ X.retT $ ret3 rfl rfl rfl rfl ?_
  exact ⟨_, [], 0, 3, rfl, (hM.pick [] (by decide)).nil u8 5, .inr ⟨by decide, by rw [Df.inf, if_pos hC0], rfl, rfl⟩⟩
 refine Kk $ C.seq $ Kb $ Km rfl $ E.lenv rfl (Rd.shape (hM.arg0 hp)) U22 rfl $ Kp rfl $ Ka $ C.cond' rfl (fun hC1 => ?_) (fun hC1 => ?_)
 ·
  refine Kb $ Kn rfl $ Kn rfl $ Kc rfl $ C.ret $ X.retT $ ret3 rfl rfl rfl rfl ?_
  exact ⟨_, [], 0, 4, rfl, (hM.pick [] (by decide)).nil u8 5, .inr ⟨by decide, by rw [Df.inf, if_neg hC0, if_pos (by omega)], rfl, rfl⟩⟩
 have hl4 : l.length ≤ 4194304 := by omega
 obtain ⟨lim, rfl⟩ : ∃ lim : Nat, x = (lim : Int) := ⟨x.toNat, by omega⟩
 have hinf : Df.inf l lim = Df.rinf lim l [] (Df.ub l) 0 := by rw [Df.inf, if_neg hC0, if_neg (by omega), Int.toNat_natCast]
 have hul := Df.ub_len l
 refine Kk $ Kb $ Kf rfl $ ?_
 obtain ⟨pa, pcap, hpe⟩ := Rd.shape hp
 refine E.build (cs := [p, i64 0, i64 (lim : Int), .slice none 0 0, .slice none 0 0]) rfl (by rw [hpe]; kernel_rfl) rfl $ E.boxM hM rfl rfl rfl ?_
 intro b22 w0 hM
 refine Kc rfl $ C.block $ ?_
 have hM := hM.nil u8 5
 refine C.loop5 [(7, _)] rfl (fun (a : Nat) (out : (List UInt8)) (vo : Value) (fv : Value) (F : (List Rg)) => []) (fun (a : Nat) (out : (List UInt8)) (vo : Value) (fv : Value) (F : (List Rg)) w' => M w (Nn) w' (Rg.blk b22 102 [p, i64 ((a : Nat) : Int), i64 (lim : Int), vo, fv] :: Rg.sl u8 5 vo out :: F) ∧ Df.rinf lim l [] (Df.ub l) 0 = Df.rinf lim l out (Df.ub l) a ∧ a ≤ 8 * l.length ∧ out.length ≤ lim ∧ Fx fv F) (fun (a : Nat) (out : (List UInt8)) (vo : Value) (fv : Value) (F : (List Rg)) => 8 * l.length - a) 0 [] (.slice none 0 0) (.slice none 0 0) [] ?_ ?_ ?_
 · exact Sub.nil _
 · exact ⟨hM, rfl, Nat.zero_le _, Nat.zero_le _, .inl ⟨rfl, rfl⟩⟩
 rintro a out vo fv F w1 ⟨hM, hri, ha, hol, hF⟩
 refine C.block $ Kb $ Km rfl $ E.call rfl rfl (sblock_ret out F b22 a lim p vo fv l _ hM.sep (hM.arg0 hp) (hM.off0 hp) (by omega) (by omega) hol (by omega) (hM.ord0 hO) (hM.no0 hO) hF) ?_
 rintro _ w2 ⟨vo2, fv2, out2, F2, a2, x2, e2, rfl, m, hF2, hr2, hol2⟩
 have hM := hM.callAll m
 refine Km rfl $ E.ext rfl rfl rfl $ E.ext rfl rfl rfl $ Kn rfl $ Kc rfl $ C.seq $ Kb $ Km rfl $ Kp rfl $ Ka $ C.cond' rfl (fun hC2 => ?_) (fun hC2 => ?_)
 ·
  refine Kb $ Km rfl $ Kn rfl $ Kn rfl $ Kc rfl $ C.ret $ X.retT $ X.retB $ X.retT $ X.retB $ ret3 rfl rfl rfl rfl ?_
  exact ⟨_, [], 0, e2, rfl, (hM.pick [] (by decide)).nil u8 5, .inr ⟨hC2, by rw [hinf, hri, Df.rinf_err (hr2.bad hC2)], rfl, rfl⟩⟩
 have hq2 := hr2.good hC2
 have hv2 := Df.rblk_adv (by omega) hq2
 refine Kk $ Kb $ Km rfl $ Ka $ C.cond rfl (fun hC3 => ?_) (fun hC3 => ?_)
 ·
  have hx2 : x2 = 1 := by have := of_decide_eq_true hC3; omega
  subst hx2
  refine C.seq $ C.drawn (by kernel_rfl) (by kernel_rfl) $ Q.mv rfl rfl $ Q.nilc rfl rfl $ Q.fld (o := 3) (sz := 0) rfl U102 rfl rfl (by kernel_rfl) rfl $ Q.load rfl U22 rfl (hM.bcell 0 rfl rfl) rfl $ Q.mv rfl rfl $ Q.nilc rfl rfl $ Q.fld (o := 1) (sz := 0) rfl U102 rfl rfl (by kernel_rfl) rfl $ Q.load rfl U3 rfl (hM.bcell 0 rfl rfl) rfl $ Q.addN (a := a2) (b := 7) rfl rfl (by omega) rfl $ Q.quo rfl rfl (by omega) (quoN (a := a2 + 7) (b := 8) (by omega) (by omega)) rfl $ Q.asg rfl rfl $ Q.asg rfl rfl $ Q.asg rfl rfl $ Q.nil $ fun w3 hx3 => ?_
  have hM := hM.ext hx3
  refine X.next $ C.ret $ X.retB $ X.retT $ X.retB $ ret3 rfl rfl rfl rfl ?_
  exact ⟨vo2, out2, (a2 + 7) / 8, 0, rfl, hM.pick [1] (by decide), .inl ⟨rfl, a2, by rw [hinf, hri, Df.rinf_last hq2], rfl, by omega⟩⟩
 have hx2 : x2 ≠ 1 := fun h => by subst h; exact absurd hC3 (by decide)
 rw [Df.rinf_more hq2 hx2 hv2] at hri
 refine C.skip $ X.outN $ X.again5 a2 out2 vo2 fv2 F2 (Sub.nil _) rfl ⟨hM, hri, by omega, hol2, hF2⟩ (by omega)
end Go.Proofs.YtajklleiifhipaaGreatDoor
namespace Go.Proofs.YtajklleiifhipaaGreatDoor
open Go.RowKit Sym
namespace Sym
section
variable {P : Program} {ops : Array Oper} {Q : Exit → Act → World → Prop} {s : St} {env : Env} {w w0 : World} {S : Nat → Prop} {rs : List Rg} {rest : List Oper} {d : Nat} {ty : TypeId} {pos : String} {aft : Array Edge}
theorem E.slcAr {t e : TypeId} {n sz b : Nat} {x : Operand} (hx : ev env x = some (pv b)) (ht : P.underlying t = some (.array n e)) (hs : (P.info? e).map (·.size) = some sz) (h0 : 0 < n) (hd : Nat.blt d s.n = true)
  (h : wpE P ops Q s rest ((d, .slice (some ⟨b, 0, none⟩) n n) :: env) w) : wpE P ops Q s (⟨some d, .slice t x none none none, ty, pos, aft, none⟩ :: rest) env w := by
 obtain ⟨i, hi, hs'⟩ := Option.map_eq_some_iff.1 hs
 refine E.op (fun a ha => ?_) hd h
 have hn : ¬ n = 0 := by omega
 simp [execOp, ha.ev hx, Instr.sliceAt, Instr.sureAddr, run_underlying ht, Instr.sliceBounds, sizeOf, typeInfo, hi, hs', hn, addr_add]
theorem M.arrL {α : Type} {enc : α → Value} {b : Nat} {T : TypeId} {l : List α} (h : M w0 S w rs) (i : Nat) (hi : rs[i]? = some (Rg.blk b T (l.map enc))) (hn : l.length ≤ 1000000) : RdL enc w (.slice (some ⟨b, 0, none⟩) l.length l.length) l :=
 ⟨some ⟨b, 0, none⟩, l.length, rfl, Nat.le_refl _, by unfold maxLen; omega, by rw [List.length_map, Nat.mul_one], fun _ => ⟨b, 0, rfl⟩, h.bat i hi⟩
end
end Sym
namespace Df
def b1 (x : Int) : UInt8 := if x = 0 then 1 else if x = 1 then 94 else 156
noncomputable def wrv (l : List UInt8) (x : Int) : List UInt8 := if x < 0 ∨ 2 < x then [] else [120, b1 x] ++ cmp l x.toNat ++ ad4 l
theorem cmp_len {l : List UInt8} (hl : l.length ≤ 32768) {lv : Nat} (hlv : lv ≤ 2) : (cmp l lv).length ≤ 1000000 := by
 have htk := toks_tok hl
 have htl := toks_len l 0
 unfold cmp
 split
 · simp only [sto, List.length_append, List.length_cons, List.length_nil]; omega
 obtain ⟨ga, gb, gc, gd, ge, gf, gg, gh, gi⟩ := bl_ok lv (ts := toks l 0) (by omega)
 have h1 := tbs_len (L := blL lv (toks l 0)) (D := blD lv (toks l 0)) (fun n hn => Nat.le_trans (gc n hn) (by decide)) (fun n hn => Nat.le_trans (gd n hn) (by decide)) htk
 have h2 := gd30 (l := blL lv (toks l 0)) (fun n hn => Nat.le_trans (gc n hn) (by decide)) 256
 have h3 : (hdv lv (toks l 0)).length ≤ 20000 := by
  unfold hdv
  split
  · simp
  exact hdr_len (gi ‹_›).1 (gi ‹_›).2 gc gd
 rw [pk_len, cbits]
 simp only [List.length_append, low_len, btv_len]; omega
end Df
set_option maxHeartbeats 2000000 in
set_option maxRecDepth 4000 in
theorem Wrap_ret (p : Value) (l : List UInt8) (x : Int) (w : World) (hp : RdL u8 w p l) (hl : l.length ≤ 32768) (hO : Ord w) :
  Ret Tryz.prog 18 #[p, i64 x] w fun v w' => ∃ vo, v = .tuple #[vo, i64 (if x < 0 ∨ 2 < x then 3 else 0)] ∧ M w Nn w' [Rg.sl u8 5 vo (Df.wrv l x)] := by
 have hM := M.start w
 refine enter Tryz.func18 rfl (by kernel_rfl) Tryz.ntmps18 rfl $ Kb $ Kn rfl $ Kd rfl $ Kf rfl $ E.call rfl rfl (Compress_ret p l x _ (hM.arg0 hp) hl (hM.ord0 hO)) ?_
 rintro _ w1 ⟨v13, rfl, m⟩
 have hM := hM.call m
 try dsimp only [Za, Zb, Zc, Zd, repl] at hM
 try dsimp only [Za, Zb, Zc, Zd, repl] at hM
 refine Km rfl $ E.ext rfl rfl rfl $ E.ext rfl rfl rfl $ Kn rfl $ Kc rfl $ C.seq $ Kb $ Km rfl $ Kp rfl $ Ka $ C.cond' rfl (fun hC0 => ?_) (fun hC0 => ?_)
 ·
  have hx : x < 0 ∨ 2 < x := by by_cases h : x < 0 ∨ 2 < x; exact h; rw [if_neg h] at hC0; exact (hC0 rfl).elim
  refine Kb $ Km rfl $ Kn rfl $ Kc rfl $ C.ret $ X.retT $ ret2 rfl rfl rfl ?_
  exact ⟨_, rfl, by rw [Df.wrv, if_pos hx]; exact (hM.nil u8 5).pick [1] (by decide)⟩
 have hx : ¬ (x < 0 ∨ 2 < x) := by intro h; rw [if_pos h] at hC0; exact absurd hC0 (by decide)
 obtain ⟨lv, rfl⟩ : ∃ lv : Nat, x = (lv : Int) := ⟨x.toNat, by omega⟩
 rw [Df.cmv, if_neg hx, Int.toNat_natCast] at hM
 have hcl := Df.cmp_len hl (lv := lv) (by omega)
 obtain ⟨Cm, hCm⟩ : ∃ Cm, Cm = Df.cmp l lv := ⟨_, rfl⟩
 rw [← hCm] at hM hcl
 have hwv : Df.wrv l lv = [120, Df.b1 lv] ++ Cm ++ Df.ad4 l := by rw [Df.wrv, if_neg hx, Int.toNat_natCast, hCm]
 rw [hwv, if_neg hx]
 refine Kk $ Kb $ E.mkM (enc := u8) (e := 5) [120, 156] hM rfl (fun _ => by kernel_rfl) rfl rfl rfl ?_
 intro v19 w1 hM
 try dsimp only [Za, Zb, Zc, Zd, repl] at hM
 refine Kc rfl $ C.cut0 [(0, _), (6, _), (8, _)] rfl [] (fun w' => M w (Nn) w' [Rg.sl u8 5 v13 Cm, Rg.sl u8 5 v19 [120, Df.b1 lv]]) ?_ ?_
 ·
  refine Kb $ Km rfl $ Ka $ C.block $ Kb $ Kp rfl $ Kc rfl $ C.cond' rfl (fun hC1 => ?_) (fun hC1 => ?_)
  ·
   refine C.region $ Km rfl $ E.idx1 (k := 1) rfl rfl (hM.sl 1 rfl) rfl (by simp) U22 (by kernel_rfl) rfl $ E.storeL (enc := u8) 1 1 hM rfl rfl rfl (by kernel_rfl) rfl rfl (by simp) ?_
   intro w2 hM
   try dsimp only [Za, Zb, Zc, Zd, repl] at hM
   refine E.nil $ X.outN $ X.join0  (Sub.nil _) rfl (hM.as (by rw [Df.b1, if_pos hC1]))
  refine Kb $ Kp rfl $ Kc rfl $ C.cond' rfl (fun hC2 => ?_) (fun hC2 => ?_)
  ·
   refine C.region $ Km rfl $ E.idx1 (k := 1) rfl rfl (hM.sl 1 rfl) rfl (by simp) U22 (by kernel_rfl) rfl $ E.storeL (enc := u8) 1 94 hM rfl rfl rfl (by kernel_rfl) rfl rfl (by simp) ?_
   intro w3 hM
   try dsimp only [Za, Zb, Zc, Zd, repl] at hM
   refine E.nil $ X.outN $ X.join0  (Sub.nil _) rfl (hM.as (by rw [Df.b1, if_neg hC1, if_pos hC2]))
  refine C.skip $ X.outN $ X.join0  (Sub.nil _) rfl (hM.as (by rw [Df.b1, if_neg hC1, if_neg hC2]))
 rintro  w4 hM
 refine Kb $ Kf rfl $ E.appendM 1 hM rfl rfl rfl U22 elem_Tuint8 (hM.sl 0 rfl) (fun _ => rfl) (by simp only [List.length_cons, List.length_nil]; omega) (by simp only [List.length_cons, List.length_nil]; omega) rfl ?_
 intro v31 w5 hM
 try dsimp only [Za, Zb, Zc, Zd, repl] at hM
 refine Kd rfl $ Km rfl $ E.call rfl rfl (sumOf_ret p l _ (hM.arg0 hp)) ?_
 rintro _ w5 ⟨rfl, x5⟩
 have hM := hM.ext x5
 try dsimp only [Za, Zb, Zc, Zd, repl] at hM
 refine E.allocM (z := .agg #[.int .u8 0, .int .u8 0, .int .u8 0, .int .u8 0]) (cs := [.int .u8 0, .int .u8 0, .int .u8 0, .int .u8 0]) hM (by kernel_rfl) rfl rfl ?_
 intro b9 w7 hM
 try dsimp only [Za, Zb, Zc, Zd, repl] at hM
 refine E.storeAM 2 (cs := (Df.ad4 l).map u8) hM rfl rfl rfl (by kernel_rfl) rfl (ones rfl $ ones rfl $ ones rfl $ ones rfl $ ones_nil) ?_
 intro w8 hM
 try dsimp only [Za, Zb, Zc, Zd, repl] at hM
 refine Ke $ Km rfl $ E.slcAr (sz := 1) rfl Tryz.underlying62 (by kernel_rfl) (by decide) rfl $ E.appendM 1 hM rfl rfl rfl U22 elem_Tuint8 (hM.arrL (l := Df.ad4 l) 2 rfl (by simp [Df.ad4])) (fun _ => rfl) (by simp only [List.length_append, List.length_cons, List.length_nil, Df.ad4]; omega) (by simp only [List.length_append, List.length_cons, List.length_nil, Df.ad4]; omega) rfl ?_
 intro v36 w9 hM
 try dsimp only [Za, Zb, Zc, Zd, repl] at hM
 refine Kn rfl $ Kc rfl $ C.ret $ ret2 rfl rfl rfl ?_
 exact ⟨_, rfl, hM.pick [1] (by decide)⟩
end Go.Proofs.YtajklleiifhipaaGreatDoor
