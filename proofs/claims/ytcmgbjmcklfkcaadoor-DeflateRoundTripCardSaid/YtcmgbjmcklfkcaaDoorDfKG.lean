/- Deflate, as plain mathematics: a block's header that was written is read again. -/
import Derived.Test.YtcmgbjmcklfkcaaDoorDfJG
namespace Go.Proofs.YtcmgbjmcklfkcaaDoor
set_option linter.unusedSimpArgs false
set_option linter.unusedVariables false
open Sym
namespace Df
/-! lengths without the zeros at the end make the same code -/
theorem od_trim {l l' : List Nat} (h : ∀ i, l'.getD i 0 = l.getD i 0) : Pf.od l' = Pf.od l := by
  refine Pf.od_uniq ((Pf.od_sorted l').imp fun {a b} hab => ?_) fun i => ?_
  · unfold Pf.Bf at hab ⊢; rw [h, h] at hab; exact hab
  · rw [Pf.od_mem]
    constructor
    · rintro ⟨h1, h2, h3⟩; rw [h] at h2 h3; exact ⟨lt_gd h2, h2, h3⟩
    · rintro ⟨h1, h2, h3⟩; rw [← h] at h2 h3; exact ⟨lt_gd h2, h2, h3⟩
theorem code_trim {l l' : List Nat} (h : ∀ i, l'.getD i 0 = l.getD i 0) (i : Nat) : Pf.code l' i = Pf.code l i := by
  have hf : (fun i => l'.getD i 0) = fun i => l.getD i 0 := funext h
  unfold Pf.code Pf.Kp Pf.lens
  rw [od_trim h, h, hf]
theorem tb_trim {L L' D D' : List Nat} (h : ∀ i, L'.getD i 0 = L.getD i 0) (h2 : ∀ i, D'.getD i 0 = D.getD i 0) (ts : List Nat) : tbs L' D' ts = tbs L D ts := by
  have : tb L' D' = tb L D := funext fun t => by unfold tb; simp only [code_trim h, code_trim h2, h, h2]
  unfold tbs; rw [this]
def trm (l : List Nat) (m : Nat) : List Nat := l.take (ctn l m)
theorem trm_get (l : List Nat) (m i : Nat) : (trm l m).getD i 0 = l.getD i 0 := by
  unfold trm
  by_cases h : i < ctn l m
  · rw [List.getD_eq_getElem?_getD, List.getElem?_take_of_lt h, ← List.getD_eq_getElem?_getD]
  · rw [List.getD_eq_getElem?_getD, List.getElem?_eq_none (by rw [List.length_take]; omega), ctn_zero (least := m) (by omega)]; rfl
theorem trm_len (l : List Nat) (m : Nat) : (trm l m).length = ctn l m := by unfold trm; rw [List.length_take, Nat.min_eq_left (ctn_le l m)]
theorem trm_kr (l : List Nat) (m : Nat) : Pf.kr (trm l m) = Pf.kr l := by
  have h := Pf.kr_app (l.take (ctn l m)) (l.drop (ctn l m))
  rw [List.take_append_drop] at h
  have h0 : Pf.kr (l.drop (ctn l m)) = 0 := kr_zero fun n hn => by
    obtain ⟨s, hs, rfl⟩ := mem_getD hn
    rw [List.getD_eq_getElem?_getD, List.getElem?_drop, ← List.getD_eq_getElem?_getD]
    exact ctn_zero (least := m) (by omega)
  unfold trm; omega
theorem trm_mem {l : List Nat} {m B : Nat} (h : ∀ n ∈ l, n ≤ B) : ∀ n ∈ trm l m, n ≤ B := fun n hn => h n (List.mem_of_mem_take hn)
theorem map_getD (l : List Nat) : (List.range l.length).map (fun i => l.getD i 0) = l := by
  apply List.ext_getElem?
  intro i
  by_cases h : i < l.length
  · rw [List.getElem?_map, List.getElem?_range h, List.getElem?_eq_getElem h, Option.map_some, Pf.getD_eq h]
  · rw [List.getElem?_eq_none (by simp; omega), List.getElem?_eq_none (by omega)]
theorem us_nu (l : List Nat) : us l = nu l := by
  unfold us nu
  conv => lhs; rw [← map_getD l]
  rw [List.filter_map, List.length_map]; rfl
theorem nu_eq {l l' : List Nat} (h : ∀ i, 0 < l'.getD i 0 ↔ 0 < l.getD i 0) : nu l' = nu l := by
  have key : ∀ (a : List Nat) (m : Nat), a.length ≤ m → nu a = ((List.range m).filter fun s => decide (0 < a.getD s 0)).length := fun a m => by
    induction m with
    | zero => intro hm; unfold nu; rw [show a.length = 0 by omega]
    | succ m ih =>
      intro hm
      by_cases e : a.length = m + 1
      · unfold nu; rw [e]
      · rw [ih (by omega), List.range_succ, List.filter_append, List.length_append]
        have : a.getD m 0 = 0 := by rw [List.getD_eq_getElem?_getD, List.getElem?_eq_none (by omega)]; rfl
        rw [List.filter_cons, if_neg (by rw [this]; simp)]; rfl
  rw [key l' (max l.length l'.length) (Nat.le_max_right _ _), key l (max l.length l'.length) (Nat.le_max_left _ _)]
  congr 1
  exact List.filter_congr fun i _ => decide_eq_decide.2 (h i)
theorem us_zero {l : List Nat} (h : us l = 0) : ∀ n ∈ l, n = 0 := fun n hn => by
  by_cases c : 0 < n
  · have := List.length_pos_of_mem (List.mem_filter (p := fun n => decide (0 < n)).2 ⟨hn, decide_eq_true c⟩)
    unfold us at h; omega
  · omega
theorem sum_zero {l : List Nat} (h : ∀ n ∈ l, n = 0) : l.sum = 0 := by
  induction l with
  | nil => rfl
  | cons a l ih => rw [List.sum_cons, ih fun n hn => h n (by simp [hn]), h a (by simp)]
theorem us_one : ∀ {l : List Nat}, us l = 1 → ∃ n, 0 < n ∧ Pf.kr l = Pf.un n ∧ l.sum = n
  | [], h => by simp [us] at h
  | a :: l, h => by
    unfold us at h
    rw [List.filter_cons] at h
    by_cases c : 0 < a
    · rw [if_pos (decide_eq_true c), List.length_cons] at h
      have h0 := us_zero (l := l) (by unfold us; omega)
      refine ⟨a, c, ?_, ?_⟩
      · have := kr_zero h0
        simp only [Pf.kr, List.map_cons, List.sum_cons] at this ⊢; omega
      · rw [List.sum_cons, sum_zero h0]; omega
    · rw [if_neg (by simpa using c)] at h
      obtain ⟨n, h1, h2, h3⟩ := us_one (l := l) h
      obtain rfl : a = 0 := by omega
      refine ⟨n, h1, ?_, ?_⟩
      · simp only [Pf.kr, List.map_cons, List.sum_cons] at h2 ⊢; rw [h2, Pf.un, if_pos rfl]; omega
      · rw [List.sum_cons, h3]; omega
theorem un_half {n : Nat} (h0 : 0 < n) (h : Pf.un n = 2 ^ 29) : n = 1 := by
  rw [Pf.un, if_neg (by omega)] at h
  by_cases c : n = 1
  · exact c
  · have := Nat.pow_le_pow_right (n := 2) (by decide) (show 30 - n ≤ 28 by omega)
    omega
theorem chv_full {l : List Nat} (hb : ∀ n ∈ l, n ≤ 30) (hl : l.length ≤ 4096) (hk : Pf.kr l = 2 ^ 30) : chv (nz l) = 0 := by
  unfold chv
  rw [if_neg (by rw [nz_len]; omega), if_pos (show okr (nz l) 30 = true from okr_nz' (m := 30) hb), toN_nz', hk]; decide
/-- such lengths are acceptable, if any is used -/
theorem acc_oln {fs : List Nat} {m k : Nat} (hm : 1 ≤ m) (hm2 : m ≤ 30) (hf : ∀ f ∈ fs, f ≤ 1099511627776) (hl : fs.length ≤ 4096) (hc : fs.length ≤ 2 ^ m) (hu : 1 ≤ nu fs) : acc (trm (oln fs m) k) = true := by
  obtain ⟨h1, h2, h3, h4, h5⟩ := oln_law hm hm2 hf hl hc
  have h6 := (oln_ok hm hm2 hf hl hc).1
  unfold acc
  rw [decide_eq_true_eq]
  by_cases c : 2 ≤ nu fs
  · left
    refine chv_full (fun n hn => Nat.le_trans (trm_mem h6 n hn) hm2) ?_ ?_
    · rw [trm_len]; have := ctn_le (oln fs m) k; omega
    · rw [trm_kr, h4 c]
  · right
    have hn1 : nu fs = 1 := by omega
    have hnu : us (trm (oln fs m) k) = 1 := by
      rw [us_nu, ← hn1]
      refine nu_eq fun i => ?_
      rw [trm_get]
      by_cases hi : i < fs.length
      · exact (h3 i hi).1.symm
      · rw [List.getD_eq_getElem?_getD, List.getElem?_eq_none (by omega), List.getD_eq_getElem?_getD, List.getElem?_eq_none (by omega)]
    obtain ⟨n, k1, k2, k3⟩ := us_one hnu
    rw [trm_kr, h5 hn1] at k2
    have := un_half k1 k2.symm
    exact ⟨hnu, by omega⟩
/-! the lengths of the length code are read -/
def fil (c : List Nat) (i s : Nat) : Nat := if ordL.idxOf s < i then c.getD s 0 else 0
theorem fil_put {c : List Nat} {i : Nat} (hi : i < 19) : (tab 19 (fil c i)).set (ordL.getD i 0) (c.getD (ordL.getD i 0) 0) = tab 19 (fil c (i + 1)) := by
  have hd : ∀ i, i < 19 → ∀ s, s < 19 → (ordL.idxOf s < i + 1 ↔ ordL.idxOf s < i ∨ s = ordL.getD i 0) := by decide +kernel
  apply List.ext_getElem?
  intro s
  by_cases hs : s < 19
  · rw [tab_get hs]
    by_cases e : ordL.getD i 0 = s
    · rw [e, List.getElem?_set_self (by rw [tab_len]; exact hs), fil, if_pos ((hd i hi s hs).2 (.inr e.symm))]
    · rw [List.getElem?_set_ne e, tab_get hs]
      unfold fil
      by_cases c1 : ordL.idxOf s < i
      · rw [if_pos c1, if_pos (by omega)]
      · rw [if_neg c1, if_neg (fun h => by rcases (hd i hi s hs).1 h with h | h; exact c1 h; exact e h.symm)]
  · rw [List.getElem?_eq_none (by rw [List.length_set, tab_len]; omega), List.getElem?_eq_none (by rw [tab_len]; omega)]
theorem lst_at {c : List Nat} {i : Nat} (h : i < 19) : (lst c)[i]? = some (c.getD (ordL.getD i 0) 0) := by
  unfold lst
  rw [List.getElem?_map, List.getElem?_eq_getElem (show i < ordL.length from h), Pf.getD_eq (show i < ordL.length from h)]; rfl
theorem l3_read {c : List Nat} (hc : ∀ n ∈ c, n ≤ 7) {B r : List Bool} : ∀ (k i a : Nat), i + k ≤ 19 → a ≤ B.length → B.drop a = (((lst c).drop i).take k).flatMap (fun n => low n 3) ++ r → rl3 k i (tab 19 (fil c i)) B a = .ok (tab 19 (fil c (i + k)), a + 3 * k)
  | 0, i, a, _, _, _ => rfl
  | k + 1, i, a, hik, ha, hB => by
    have hi : i < (lst c).length := by rw [lst_len]; omega
    have hg : (lst c)[i] = c.getD (ordL.getD i 0) 0 := by
      have := lst_at (c := c) (i := i) (by omega)
      rw [List.getElem?_eq_getElem hi] at this
      exact Option.some.inj this
    have hd : (lst c).drop i = (lst c)[i] :: (lst c).drop (i + 1) := List.drop_eq_getElem_cons hi
    have h7 : c.getD (ordL.getD i 0) 0 ≤ 7 := by
      by_cases hs : ordL.getD i 0 < c.length
      · rw [Pf.getD_eq hs]; exact hc _ (List.getElem_mem hs)
      · rw [List.getD_eq_getElem?_getD, List.getElem?_eq_none (by omega)]; exact Nat.zero_le _
    rw [hd, List.take_succ_cons, List.flatMap_cons, hg, List.append_assoc] at hB
    have r1 := rbits_ok hB (show _ < 2 ^ 3 by omega) ha
    have k1 := drop_more hB
    rw [low_len] at k1
    have v1 := (cut_bits 3 B a _ _ ha r1).2.1
    rw [rl3, bnd_ok r1, fil_put (by omega), l3_read hc k (i + 1) (a + 3) (by omega) v1 k1, show i + 1 + k = i + (k + 1) by omega, show a + 3 + 3 * k = a + 3 * (k + 1) by omega]
theorem fil_end {c : List Nat} (hl : c.length = 19) : tab 19 (fil c (ctn (lst c) 4)) = c := by
  symm
  refine tab_eq hl fun s hs => ?_
  have hlt : ∀ s, s < 19 → ordL.getD (ordL.idxOf s) 0 = s ∧ ordL.idxOf s < 19 := by decide +kernel
  obtain ⟨h1, h2⟩ := hlt s hs
  rw [List.getElem?_eq_getElem (by omega), ← Pf.getD_eq (by omega)]
  unfold fil
  by_cases c1 : ordL.idxOf s < ctn (lst c) 4
  · rw [if_pos c1]
  · have hz := ctn_zero (l := lst c) (least := 4) (j := ordL.idxOf s) (by omega)
    have : (lst c).getD (ordL.idxOf s) 0 = c.getD s 0 := by
      rw [List.getD_eq_getElem?_getD, lst_at h2, h1]; rfl
    rw [if_neg c1, ← this, hz]
/-! the steps are read -/
/-- every step has a code -/
def Hs (C : List Nat) (x : Stp) : Prop := 1 ≤ C.getD x.1 0
theorem rln_lit {C : List Nat} {N v a : Nat} {out : List Nat} {B r : List Bool} (hC : Code C) (hN : out.length < N) (hv : v < 16) (ha : a ≤ B.length) (hh : Hs C (v, 0, 0)) (hB : B.drop a = sbits C (v, 0, 0) ++ r) : rln C N out B a = rln C N (out ++ [v]) B (a + (sbits C (v, 0, 0)).length) ∧ a + (sbits C (v, 0, 0)).length ≤ B.length := by
  have hs : sbits C (v, 0, 0) = btv (Pf.code C v) (C.getD v 0) := by unfold sbits; exact List.append_nil _
  rw [hs] at hB ⊢
  have hh' : 1 ≤ C.getD v 0 := hh
  have r1 := rsym_ok hC (lt_gd hh') hh' hB
  have v1 := rsym_adv ha r1
  rw [btv_len]
  exact ⟨by rw [rln_on hN, bnd_ok r1, if_pos hv], v1.2⟩
theorem rln_rep {C : List Nat} {N s m a : Nat} {out : List Nat} {B r : List Bool} (hC : Code C) (hs : 16 ≤ s) (ho : s = 16 → out.length ≠ 0) (hm : m < 2 ^ lsx s) (hN : out.length + lsl s + m ≤ N) (ha : a ≤ B.length) (hh : Hs C (s, m, lsx s)) (hB : B.drop a = sbits C (s, m, lsx s) ++ r) :
    rln C N out B a = rln C N (out ++ List.replicate (lsl s + m) (lsv s out)) B (a + (sbits C (s, m, lsx s)).length) ∧ a + (sbits C (s, m, lsx s)).length ≤ B.length := by
  have h3 : 3 ≤ lsl s := by unfold lsl; split <;> omega
  have hsb : sbits C (s, m, lsx s) = btv (Pf.code C s) (C.getD s 0) ++ low m (lsx s) := rfl
  rw [hsb, List.append_assoc] at hB
  rw [hsb, List.length_append, btv_len, low_len]
  have hh' : 1 ≤ C.getD s 0 := hh
  have r1 := rsym_ok hC (lt_gd hh') hh' hB
  have v1 := rsym_adv ha r1
  have k1 := drop_more hB
  rw [btv_len] at k1
  have r2 := rbits_ok k1 hm v1.2
  have v2 := (cut_bits _ B _ _ _ v1.2 r2).2.1
  refine ⟨?_, by omega⟩
  rw [rln_on (by omega), bnd_ok r1, if_neg (by omega), if_neg (fun c => ho c.1 c.2), bnd_ok r2, if_neg (by omega), Nat.add_assoc]
theorem rep_add {α : Type} (a b : Nat) (x : α) (out : List α) : out ++ List.replicate a x ++ List.replicate b x = out ++ List.replicate (a + b) x := by
  rw [List.append_assoc, List.replicate_append_replicate]
theorem rln_same {C : List Nat} {N v : Nat} (hC : Code C) (hv : v < 16) {B r : List Bool} : ∀ (n a : Nat) (out : List Nat), out.length + n ≤ N → a ≤ B.length → (∀ x ∈ List.replicate n ((v, 0, 0) : Stp), Hs C x) → B.drop a = (List.replicate n ((v, 0, 0) : Stp)).flatMap (sbits C) ++ r →
    ∃ a', a' = a + ((List.replicate n ((v, 0, 0) : Stp)).flatMap (sbits C)).length ∧ a' ≤ B.length ∧ rln C N out B a = rln C N (out ++ List.replicate n v) B a'
  | 0, a, out, _, ha, _, _ => ⟨a, rfl, ha, by simp⟩
  | n + 1, a, out, hN, ha, hh, hB => by
    rw [List.replicate_succ, List.flatMap_cons] at hB ⊢
    rw [List.append_assoc] at hB
    obtain ⟨h1, h2⟩ := rln_lit hC (show out.length < N by omega) hv ha (hh _ (by simp)) hB
    have k1 := drop_more hB
    obtain ⟨a', g1, g2, g3⟩ := rln_same (N := N) hC hv n _ (out ++ [v]) (by rw [List.length_append, List.length_singleton]; omega) h2 (fun x hx => hh x (by rw [List.replicate_succ]; exact List.mem_cons_of_mem _ hx)) k1
    refine ⟨a', by rw [g1, List.length_append]; omega, g2, ?_⟩
    rw [h1, g3, List.append_assoc]; rfl
theorem rln_zer {C : List Nat} {N : Nat} (hC : Code C) {B r : List Bool} (n a : Nat) (out : List Nat) (hN : out.length + n ≤ N) (ha : a ≤ B.length) (hh : ∀ x ∈ zer n, Hs C x) (hB : B.drop a = (zer n).flatMap (sbits C) ++ r) :
    ∃ a', a' = a + ((zer n).flatMap (sbits C)).length ∧ a' ≤ B.length ∧ rln C N out B a = rln C N (out ++ List.replicate n 0) B a' := by
  by_cases h : 11 ≤ n
  · rw [zer_big h] at hh hB ⊢
    rw [List.flatMap_cons, List.append_assoc] at hB
    obtain ⟨h1, h2⟩ := rln_rep (N := N) (s := 18) (m := min n 138 - 11) hC (by decide) (fun c => absurd c (by decide)) (show _ < 2 ^ 7 by omega) (show out.length + 11 + (min n 138 - 11) ≤ N by omega) ha (hh _ List.mem_cons_self) hB
    have k1 := drop_more hB
    have e : out ++ List.replicate (lsl 18 + (min n 138 - 11)) (lsv 18 out) = out ++ List.replicate (min n 138) 0 := by
      rw [show lsl 18 = 11 from rfl, show lsv 18 out = 0 from rfl, show 11 + (min n 138 - 11) = min n 138 by omega]
    rw [e] at h1
    obtain ⟨a', g1, g2, g3⟩ := rln_zer (N := N) hC (n - min n 138) _ (out ++ List.replicate (min n 138) 0) (by rw [List.length_append, List.length_replicate]; omega) h2 (fun x hx => hh x (List.mem_cons_of_mem _ hx)) k1
    refine ⟨a', by rw [g1, List.flatMap_cons, List.length_append]; rw [show lsx 18 = 7 from rfl]; omega, g2, ?_⟩
    rw [h1, g3, rep_add, show min n 138 + (n - min n 138) = n by omega]
  · by_cases h2 : 3 ≤ n
    · rw [zer_mid (by omega) h2] at hh hB ⊢
      rw [List.flatMap_cons, List.flatMap_nil, List.append_nil] at hB ⊢
      obtain ⟨h1, h2'⟩ := rln_rep (N := N) (s := 17) (m := n - 3) hC (by decide) (fun c => absurd c (by decide)) (show _ < 2 ^ 3 by omega) (show out.length + 3 + (n - 3) ≤ N by omega) ha (hh _ List.mem_cons_self) hB
      refine ⟨_, rfl, h2', ?_⟩
      rw [h1, show lsl 17 = 3 from rfl, show lsv 17 out = 0 from rfl, show 3 + (n - 3) = n by omega]; rfl
    · rw [zer_few (by omega)] at hh hB ⊢
      exact rln_same hC (by decide) n a out hN ha hh hB
termination_by n
decreasing_by omega
theorem rln_eqr {C : List Nat} {N v : Nat} (hC : Code C) (hv : v < 16) {B r : List Bool} (n a : Nat) (out : List Nat) (hl : out.length ≠ 0 ∧ out.getD (out.length - 1) 0 = v) (hN : out.length + n ≤ N) (ha : a ≤ B.length) (hh : ∀ x ∈ eqr v n, Hs C x) (hB : B.drop a = (eqr v n).flatMap (sbits C) ++ r) :
    ∃ a', a' = a + ((eqr v n).flatMap (sbits C)).length ∧ a' ≤ B.length ∧ rln C N out B a = rln C N (out ++ List.replicate n v) B a' := by
  by_cases h : 3 ≤ n
  · rw [eqr_big h] at hh hB ⊢
    rw [List.flatMap_cons, List.append_assoc] at hB
    obtain ⟨h1, h2⟩ := rln_rep (N := N) (s := 16) (m := min n 6 - 3) hC (by decide) (fun _ => hl.1) (show _ < 2 ^ 2 by omega) (show out.length + 3 + (min n 6 - 3) ≤ N by omega) ha (hh _ List.mem_cons_self) hB
    have k1 := drop_more hB
    have e : out ++ List.replicate (lsl 16 + (min n 6 - 3)) (lsv 16 out) = out ++ List.replicate (min n 6) v := by
      rw [show lsl 16 = 3 from rfl, show lsv 16 out = out.getD (out.length - 1) 0 from rfl, hl.2, show 3 + (min n 6 - 3) = min n 6 by omega]
    rw [e] at h1
    have hl2 : (out ++ List.replicate (min n 6) v).getD ((out ++ List.replicate (min n 6) v).length - 1) 0 = v := by
      rw [List.length_append, List.length_replicate, List.getD_eq_getElem?_getD, List.getElem?_append_right (by omega), List.getElem?_replicate, if_pos (by omega)]; rfl
    obtain ⟨a', g1, g2, g3⟩ := rln_eqr (N := N) hC hv (n - min n 6) _ (out ++ List.replicate (min n 6) v) ⟨by rw [List.length_append, List.length_replicate]; omega, hl2⟩ (by rw [List.length_append, List.length_replicate]; omega) h2 (fun x hx => hh x (List.mem_cons_of_mem _ hx)) k1
    refine ⟨a', by rw [g1, List.flatMap_cons, List.length_append]; rw [show lsx 16 = 2 from rfl]; omega, g2, ?_⟩
    rw [h1, g3, rep_add, show min n 6 + (n - min n 6) = n by omega]
  · rw [eqr_few (by omega)] at hh hB ⊢
    exact rln_same hC hv n a out hN ha hh hB
termination_by n
decreasing_by omega
theorem take_run {l : List Nat} {a e v : Nat} (hae : a ≤ e) (he : e ≤ l.length) (h : ∀ j, a ≤ j → j < e → l.getD j 0 = v) : l.take a ++ List.replicate (e - a) v = l.take e := by
  apply List.ext_getElem?
  intro i
  by_cases h1 : i < a
  · rw [List.getElem?_append_left (by rw [List.length_take]; omega), List.getElem?_take_of_lt h1, List.getElem?_take_of_lt (by omega)]
  · rw [List.getElem?_append_right (by rw [List.length_take]; omega), List.length_take, Nat.min_eq_left (by omega), List.getElem?_replicate]
    by_cases h2 : i < e
    · rw [if_pos (by omega), List.getElem?_take_of_lt h2, List.getElem?_eq_getElem (by omega), ← h i (by omega) h2, Pf.getD_eq (by omega)]
    · rw [if_neg (by omega), List.getElem?_eq_none (by rw [List.length_take]; omega)]
/-- the lengths are read from their steps -/
theorem rln_sq {C l : List Nat} (hC : Code C) (hl : ∀ n ∈ l, n ≤ 15) {B r : List Bool} (i a : Nat) (hi : i ≤ l.length) (ha : a ≤ B.length) (hh : ∀ x ∈ sq l i, Hs C x) (hB : B.drop a = (sq l i).flatMap (sbits C) ++ r) :
    rln C l.length (l.take i) B a = .ok (l, a + ((sq l i).flatMap (sbits C)).length) := by
  by_cases h : i < l.length
  · obtain ⟨e1, e2, e3⟩ := rend_spec h
    have hlt : (l.take i).length = i := by rw [List.length_take]; omega
    have htr := take_run (Nat.le_of_lt e1) e2 e3
    have hv : l.getD i 0 < 16 := by rw [Pf.getD_eq h]; have := hl _ (List.getElem_mem h); omega
    rw [sq_on h] at hh hB ⊢
    rw [List.flatMap_append, List.append_assoc] at hB
    rw [List.flatMap_append, List.length_append]
    have key : ∃ a', a' = a + ((if l.getD i 0 = 0 then zer (rend l i - i) else eqs (l.getD i 0) (rend l i - i)).flatMap (sbits C)).length ∧ a' ≤ B.length ∧ rln C l.length (l.take i) B a = rln C l.length (l.take (rend l i)) B a' := by
      by_cases h0 : l.getD i 0 = 0
      · rw [if_pos h0] at hh hB ⊢
        rw [h0] at htr
        obtain ⟨a', g1, g2, g3⟩ := rln_zer (N := l.length) hC (rend l i - i) a (l.take i) (by omega) ha (fun x hx => hh x (List.mem_append_left _ hx)) hB
        exact ⟨a', g1, g2, by rw [g3, htr]⟩
      · rw [if_neg h0] at hh hB ⊢
        unfold eqs at hh hB ⊢
        rw [List.flatMap_cons, List.append_assoc] at hB
        obtain ⟨h1, h2⟩ := rln_lit hC (N := l.length) (out := l.take i) (by omega) hv ha (hh _ (List.mem_append_left _ List.mem_cons_self)) hB
        have k1 := drop_more hB
        obtain ⟨a', g1, g2, g3⟩ := rln_eqr (N := l.length) hC hv (rend l i - i - 1) _ (l.take i ++ [l.getD i 0]) ⟨by simp, by rw [List.length_append, List.length_singleton, Nat.add_sub_cancel, List.getD_eq_getElem?_getD, List.getElem?_append_right (Nat.le_refl _)]; simp⟩ (by rw [List.length_append, List.length_singleton]; omega) h2 (fun x hx => hh x (List.mem_append_left _ (List.mem_cons_of_mem _ hx))) k1
        refine ⟨a', by rw [g1, List.flatMap_cons, List.length_append]; omega, g2, ?_⟩
        rw [h1, g3, ← htr, List.append_assoc]
        congr 2
        rw [show rend l i - i = (rend l i - i - 1) + 1 by omega, List.replicate_succ]; rfl
    obtain ⟨a', g1, g2, g3⟩ := key
    have k2 := drop_more hB
    rw [← g1] at k2
    rw [g3, rln_sq hC hl (rend l i) a' e2 g2 (fun x hx => hh x (List.mem_append_right _ hx)) k2, g1, Nat.add_assoc]
  · obtain rfl : i = l.length := by omega
    rw [List.take_length, sq_end (Nat.le_refl _), rln_end (by omega)]; rfl
termination_by l.length - i
decreasing_by have := rend_spec h; omega
end Df
end Go.Proofs.YtcmgbjmcklfkcaaDoor
