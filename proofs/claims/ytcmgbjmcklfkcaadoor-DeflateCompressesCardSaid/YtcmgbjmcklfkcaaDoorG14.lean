/- Texts of the claim, laid together: Pf5, Base, Pf6. -/
import Derived.WalkKit
import Derived.WalkSpells
import Derived.WalkLawsBesides
import Derived.Test.YtcmgbjmcklfkcaaDoorG13
/- prefix: the codes. -/
namespace Go.Proofs.YtcmgbjmcklfkcaaDoor
set_option linter.unusedSimpArgs false
set_option linter.unusedVariables false
open Go.RowKit Sym

theorem shl_nat {a k c : Nat} (hk : k ≤ 62) (e : a * 2 ^ k = c) (hc : c ≤ 9223372036854775807) : IntKind.i64.wrap ((a : Int) * 2 ^ min ((k : Int)).toNat IntKind.i64.bits) = (c : Int) := by
  have e1 : min ((k : Int)).toNat IntKind.i64.bits = k := by rw [Int.toNat_natCast]; simp [IntKind.bits]; omega
  have e2 : (a : Int) * 2 ^ k = (c : Int) := by rw [← e]; simp
  rw [e1, e2]; exact IntWalk.i64_in _ (by omega)
namespace Pf
/-- the length of the symbol ahead of the k-th -/
noncomputable def szk (l : List Nat) (k : Nat) : Nat := if k = 0 then 0 else l.getD ((od l).getD (k - 1) 0) 0
noncomputable def nv (l : List Nat) (k : Nat) : Nat := Kp l (od l) k / 2 ^ (30 - szk l k)
theorem szk_zero (l : List Nat) : szk l 0 = 0 := rfl
theorem nv_zero (l : List Nat) : nv l 0 = 0 := by unfold nv Kp; simp [lens, kr]
theorem szk_succ {l : List Nat} {k : Nat} (hk : k < (od l).length) : szk l (k + 1) = l.getD (od l)[k] 0 := by
  unfold szk; rw [if_neg (by omega)]; show l.getD ((od l).getD k 0) 0 = _; rw [getD_eq hk]
theorem ahead_sz {l : List Nat} {k : Nat} (hk : k ≤ (od l).length) : ∀ i ∈ (od l).take k, l.getD i 0 ≤ szk l k := by
  cases k with
  | zero => intro i hi; simp at hi
  | succ k =>
    intro i hi
    rw [szk_succ (by omega)]
    rw [← List.take_append_getElem (show k < (od l).length by omega), List.mem_append, List.mem_singleton] at hi
    rcases hi with hi | rfl
    · exact ahead_le (od_sorted l) _ i hi
    · exact Nat.le_refl _
theorem szk_le {l : List Nat} {k : Nat} (hk : k ≤ (od l).length) : szk l k ≤ 30 := by
  cases k with
  | zero => exact Nat.zero_le _
  | succ k => rw [szk_succ (by omega)]; exact (od_mem.1 (List.getElem_mem _)).2.2
theorem cd_step {l : List Nat} {k : Nat} (hk : k < (od l).length) : szk l k ≤ l.getD (od l)[k] 0 ∧ 1 ≤ l.getD (od l)[k] 0 ∧ l.getD (od l)[k] 0 ≤ 30 ∧ nv l k * 2 ^ (l.getD (od l)[k] 0 - szk l k) = code l (od l)[k] ∧ nv l (k + 1) = code l (od l)[k] + 1 := by
  have hm := (od_mem.1 (List.getElem_mem hk)).2
  have hsz : szk l k ≤ l.getD (od l)[k] 0 := by
    cases k with
    | zero => exact Nat.zero_le _
    | succ k =>
      rw [szk_succ (by omega)]
      refine ahead_le (od_sorted l) hk _ ?_
      rw [← List.take_append_getElem (show k < (od l).length by omega)]; exact List.mem_append.2 (.inr (by simp))
  have hd := Kp_dvd (od_sorted l) (fun i hi => (od_mem.1 hi).2) (k := k) (n := szk l k) (by omega) (ahead_sz (by omega)) (szk_le (by omega))
  have hc := (code_at hk).2
  refine ⟨hsz, hm.1, hm.2, ?_, ?_⟩
  · obtain ⟨c, hc'⟩ := hd
    have e : 2 ^ (30 - szk l k) = 2 ^ (l.getD (od l)[k] 0 - szk l k) * 2 ^ (30 - l.getD (od l)[k] 0) := by rw [← Nat.pow_add]; congr 1; omega
    rw [hc, nv, hc', Nat.mul_div_cancel_left _ (Nat.pow_pos (by decide)), e, Nat.mul_assoc, Nat.mul_comm (2 ^ (30 - l.getD (od l)[k] 0)) c, ← Nat.mul_assoc, Nat.mul_div_cancel _ (Nat.pow_pos (by decide)), Nat.mul_comm]
  · rw [hc, nv, szk_succ hk, Kp_succ hk, un, if_neg (by omega), Nat.add_div_right _ (Nat.pow_pos (by decide))]
/-- the codes of the first k symbols of the order -/
noncomputable def cdp (l : List Nat) (k i : Nat) : Int := open Classical in if i ∈ (od l).take k then (code l i : Int) else 0
/-- the codes -/
noncomputable def cdl (l : List Nat) : List Int := tab l.length fun i => (code l i : Int)
theorem cdp_zero (l : List Nat) : List.replicate l.length 0 = tab l.length (cdp l 0) := tab_eq (by simp) fun a ha => by rw [List.getElem?_replicate, if_pos ha]; unfold cdp; rw [if_neg (by simp)]
theorem cdp_end {l : List Nat} (hb : ∀ n ∈ l, n ≤ 30) : tab l.length (cdp l (od l).length) = cdl l := by
  refine tab_congr fun i hi => ?_
  unfold cdp
  rw [List.take_length]
  by_cases h : i ∈ od l
  · rw [if_pos h]
  · rw [if_neg h]
    have h2 := mt od_mem.2 h
    have := hb l[i] (List.getElem_mem hi)
    rw [getD_eq hi] at h2
    unfold code
    rw [if_pos (by rw [getD_eq hi]; omega)]; rfl
theorem cdp_put {l : List Nat} {k : Nat} (hk : k < (od l).length) : (od l)[k] < l.length ∧ (tab l.length (cdp l k)).set (od l)[k] (code l (od l)[k] : Int) = tab l.length (cdp l (k + 1)) := by
  have hm := od_mem.1 (List.getElem_mem hk)
  refine ⟨hm.1, tab_eq (by simp [tab_len]) fun i hi => ?_⟩
  have ht : ∀ j, j ∈ (od l).take (k + 1) ↔ j ∈ (od l).take k ∨ j = (od l)[k] := fun j => by rw [← List.take_append_getElem hk, List.mem_append, List.mem_singleton]
  by_cases e : (od l)[k] = i
  · subst e
    rw [List.getElem?_set_self (by simpa [tab_len] using hi)]
    unfold cdp; rw [if_pos ((ht _).2 (.inr rfl))]
  · rw [List.getElem?_set_ne e, tab_get hi]
    unfold cdp
    by_cases h : i ∈ (od l).take k
    · rw [if_pos h, if_pos ((ht _).2 (.inl h))]
    · rw [if_neg h, if_neg fun h2 => ((ht _).1 h2).elim h fun h3 => e h3.symm]
theorem code_le {l : List Nat} (h : ∀ n ∈ l, n ≤ 30) (hk : kr l ≤ 1073741824) {i : Nat} (hi : i ∈ od l) : code l i < 1073741824 := by
  have h1 := code_lt h hk hi
  have h2 : 2 ^ l.getD i 0 ≤ 2 ^ 30 := Nat.pow_le_pow_right (by decide) (od_mem.1 hi).2.2
  omega
/-! as the reference counts -/
noncomputable def nr (l : List Nat) (n : Nat) : Nat := Kp l (od l) (nx l n) / 2 ^ (31 - n)
noncomputable def np (l : List Nat) (n i : Nat) : Nat := Kp l (od l) (nx l n + cnt l i n) / 2 ^ (30 - n)
theorem nr_one (l : List Nat) : nr l 1 = 0 := by
  have : nx l 1 = 0 := rfl
  unfold nr Kp; rw [this]; simp [lens, kr]
theorem take_nx {l : List Nat} {n : Nat} (h0 : 1 ≤ n) (h : n ≤ 31) : ∀ i ∈ (od l).take (nx l n), l.getD i 0 ≤ n - 1 := by
  intro i hi
  by_cases e : n = 31
  · subst e; rw [nx_last, List.take_length] at hi; exact (od_mem.1 hi).2.2
  · obtain ⟨t, ht⟩ := ord_ex (l := l) h0 (show n ≤ 30 by omega)
    rw [od_eq, ht, nx, List.append_assoc, List.take_append, Nat.sub_self, List.take_length, List.take_zero, List.append_nil] at hi
    exact (ord_mem.1 hi).2.2
theorem np_zero {l : List Nat} {n : Nat} (h0 : 1 ≤ n) (h : n ≤ 30) : 2 * nr l n = np l n 0 := by
  unfold nr np
  rw [cnt_zero, Nat.add_zero]
  obtain ⟨c, hc⟩ := Kp_dvd (od_sorted l) (fun i hi => (od_mem.1 hi).2) (k := nx l n) (n := n - 1) (nx_le (by omega)) (take_nx h0 (by omega)) (by omega)
  have e1 : 2 ^ (30 - (n - 1)) = 2 * 2 ^ (30 - n) := by rw [← Nat.pow_succ']; congr 1; omega
  have e2 : 2 ^ (31 - n) = 2 * 2 ^ (30 - n) := by rw [← Nat.pow_succ']; congr 1; omega
  have hp : 0 < 2 ^ (30 - n) := Nat.pow_pos (by decide)
  rw [hc, e1, e2, Nat.mul_div_cancel_left _ (by omega), Nat.mul_comm 2 (2 ^ (30 - n)), Nat.mul_assoc, Nat.mul_div_cancel_left _ hp]
theorem np_end (l : List Nat) {n : Nat} (h : n ≤ 30) : np l n l.length = nr l (n + 1) := by
  unfold nr np; rw [nx_succ]; congr 2; omega
theorem Kp_le {l : List Nat} {k : Nat} (h : ∀ n ∈ l, n ≤ 30) (hk : kr l ≤ 1073741824) (hq : k ≤ (od l).length) : Kp l (od l) k ≤ 1073741824 := by
  have := Kp_mono (l := l) (os := od l) hq (Nat.le_refl _)
  rw [Kp_total h] at this; omega
theorem nr_le {l : List Nat} {n : Nat} (h : ∀ n ∈ l, n ≤ 30) (hk : kr l ≤ 1073741824) (hn : n ≤ 31) : nr l n ≤ 1073741824 := Nat.le_trans (Nat.div_le_self _ _) (Kp_le h hk (nx_le hn))
theorem nc_le {l : List Nat} {i n : Nat} (hn : n ≤ 30) (hi : i ≤ l.length) : nx l n + cnt l i n ≤ (od l).length := by
  have key : ∀ m, i ≤ m → m ≤ l.length → cnt l i n ≤ cnt l m n := by
    intro m
    induction m with
    | zero => intro h _; obtain rfl : i = 0 := by omega
              exact Nat.le_refl _
    | succ m ih =>
      intro h h2
      by_cases e : i = m + 1
      · subst e; exact Nat.le_refl _
      · have := ih (by omega) (by omega); rw [cnt_succ (by omega)]; omega
  have h1 := key l.length hi (Nat.le_refl _)
  have h2 := nx_le (l := l) (show n + 1 ≤ 31 by omega)
  rw [nx_succ] at h2; omega
theorem np_le {l : List Nat} {n i : Nat} (h : ∀ n ∈ l, n ≤ 30) (hk : kr l ≤ 1073741824) (hn : n ≤ 30) (hi : i ≤ l.length) : np l n i ≤ 1073741824 := Nat.le_trans (Nat.div_le_self _ _) (Kp_le h hk (nc_le hn hi))
/-- a symbol met by the reference -/
theorem np_put {l : List Nat} {i : Nat} (hi : i < l.length) (h0 : 1 ≤ l[i]) (h : l[i] ≤ 30) : np l l[i] i = code l i ∧ np l l[i] (i + 1) = np l l[i] i + 1 ∧ (tab l.length (cdp l (nx l l[i] + cnt l i l[i]))).set i (code l i : Int) = tab l.length (cdp l (nx l l[i] + cnt l (i + 1) l[i])) := by
  obtain ⟨hlt, he⟩ := List.getElem?_eq_some_iff.1 (od_place hi h0 h)
  have hcs : cnt l (i + 1) l[i] = cnt l i l[i] + 1 := by rw [cnt_succ hi, if_pos ⟨by omega, rfl⟩]
  have hc := (code_at hlt).2
  have hp := (cdp_put hlt).2
  have hg := getD_eq hi
  rw [he, hg] at hc
  rw [he] at hp
  refine ⟨hc.symm, ?_, by rw [hcs]; exact hp⟩
  unfold np
  rw [hcs, ← Nat.add_assoc, Kp_succ hlt, he, hg, un, if_neg (by omega), Nat.add_div_right _ (Nat.pow_pos (by decide))]
theorem np_skip {l : List Nat} {i n : Nat} (hi : i < l.length) (h : l[i] ≠ n) : cnt l (i + 1) n = cnt l i n := by rw [cnt_succ hi, if_neg (by omega)]; rfl
end Pf
theorem ckv_ok {zs : List Int} (h : ckv zs = 0) : zs.length ≤ 4096 ∧ okr zs 30 = true ∧ Pf.kr (toN zs) ≤ 1073741824 := by
  unfold ckv at h
  split at h
  · omega
  · split at h
    · split at h
      · omega
      · exact ⟨by omega, by assumption, by omega⟩
    · omega
/-- what Codes answers -/
noncomputable def cdv (zs : List Int) : List Int := if ckv zs = 0 then Pf.cdl (toN zs) else []
set_option maxHeartbeats 1000000 in
theorem Codes_ret (p : Value) (zs : List Int) (w : World) (hr : RdL i64 w p zs) :
    Ret Tryd.prog 48 #[p] w fun v w' => ∃ vo, v = .tuple #[vo, i64 (ckv zs)] ∧ M w Nn w' [Rg.sl i64 3 vo (cdv zs)] := by
  have hM := M.start w
  refine enter Tryd.func48 rfl (by kernel_rfl) Tryd.ntmps48 rfl ?_
  refine C.seq <| C.region <| E.asg rfl rfl <| E.asg rfl rfl <| E.nil <| X.next <| C.seq <| C.seq <| C.region <| E.mv rfl rfl <| ?_
  refine E.call rfl rfl (check_ret p zs _ (hM.arg0 hr)) ?_
  rintro _ w1 ⟨rfl, x1⟩
  have hM := hM.ext x1
  try dsimp only [List.nil_append, List.cons_append, List.set_cons_zero, List.set_cons_succ, repl] at hM
  refine E.asg rfl rfl <| E.nil <| X.next <| C.seq <| C.region <| E.mv rfl rfl <| E.bin rfl rfl rfl rfl <| E.nil <| X.next <| ?_
  refine C.cond' rfl (fun hC0 => ?_) (fun hC0 => ?_)
  ·
    refine C.seq <| C.region <| E.mv rfl rfl <| E.asg rfl rfl <| E.asg rfl rfl <| E.nil <| X.next <| C.ret <| X.retT <| ret2 rfl rfl rfl ?_
    exact ⟨_, rfl, by rw [cdv, if_neg hC0]; exact hM.nil i64 3⟩
  ·
    have hck := Decidable.byContradiction hC0
    obtain ⟨hl4, hok, hkr⟩ := ckv_ok hck
    obtain ⟨hr', hb⟩ := ok_kr hr hok
    have hlz := toN_len zs
    obtain ⟨l, hl⟩ : ∃ l, l = toN zs := ⟨_, rfl⟩
    rw [← hl] at hr' hb hkr hlz
    have hnl := nz_len l
    have hod := Pf.od_le l
    refine C.skip <| X.next <| C.seq <| C.region <| E.mv rfl rfl <| ?_
    refine E.lenv rfl (Rd.shape (hM.arg0 hr)) Tryd.underlying29 rfl ?_
    rw [← hlz]
    refine E.makeM (by_ := 8) (enc := i64) 0 hM rfl Tryd.underlying29 (by kernel_rfl) rfl (by first | omega | (simp only [List.length_replicate, List.length_append, List.length_set, List.length_cons, List.length_nil, List.length_map, List.length_range, List.length_take, List.length_drop, List.length_zipWith] at *; omega)) (by first | omega | (simp only [List.length_replicate, List.length_append, List.length_set, List.length_cons, List.length_nil, List.length_map, List.length_range, List.length_take, List.length_drop, List.length_zipWith] at *; omega)) rfl ?_
    intro v17 w1 hM
    try dsimp only [List.nil_append, List.cons_append, List.set_cons_zero, List.set_cons_succ, repl] at hM
    refine E.asg rfl rfl <| E.nil <| X.next <| C.seq <| C.region <| E.asg rfl rfl <| E.asg rfl rfl <| E.nil <| X.next <| C.seq <| C.seq <| C.region <| E.mv rfl rfl <| ?_
    refine E.call rfl rfl (ordered_ret p l _ (hM.arg0 hr') hb (by omega)) ?_
    rintro v19 w3 m
    have hM := hM.call m
    try dsimp only [List.nil_append, List.cons_append, List.set_cons_zero, List.set_cons_succ, repl] at hM
    refine E.lenv rfl (Rd.shape (hM.sl 1 rfl)) Tryd.underlying29 rfl ?_
    rw [nz_len]
    refine E.mv rfl rfl <| E.nil <| X.next <| C.block <| ?_

    refine C.loop1 [(0, _), (5, _), (19, _), (20, _)] rfl (fun (k : Nat) => [(6, i64 (Pf.nv l k : Int)), (7, i64 (Pf.szk l k : Int)), (21, i64 k)]) (fun (k : Nat) w' => M w (Nn) w' [Rg.sl i64 3 v17 (tab l.length (Pf.cdp l k)), Rg.sl i64 3 v19 (nz (Pf.od l))] ∧ k ≤ (Pf.od l).length) (fun (k : Nat) => (Pf.od l).length - k) 0 ?_ ?_ ?_
    · exact Sub.cons (look_val rfl (by rw [Pf.nv_zero]; rfl)) <| Sub.cons (look_val rfl (by rw [Pf.szk_zero]; rfl)) <| Sub.cons rfl <| Sub.nil _
    · exact ⟨hM.to (Sym.two (by rw [Pf.cdp_zero]) rfl), Nat.zero_le _⟩
    rintro k w3 ⟨hM, hk⟩
    refine C.seq <| C.region <| E.bin rfl rfl rfl rfl <| E.nil <| X.next <| C.seq <| ?_
    refine C.cond' rfl (fun hC1 => ?_) (fun hC1 => ?_)
    ·
      have hk' : k < (Pf.od l).length := by omega
      obtain ⟨hs1, hs2, hs3, hs4, hs5⟩ := Pf.cd_step hk'
      obtain ⟨hsl, hput⟩ := Pf.cdp_put hk'
      have hcl := Pf.code_le hb hkr (List.getElem_mem hk')
      have hss := Pf.szk_succ hk'
      rw [Pf.getD_eq hsl] at hs1 hs2 hs3 hs4 hss
      have hkn := hnl
      have hon := nz_len (Pf.od l)
      refine C.skip <| X.next <| C.seq <| C.block <| C.seq <| C.region <| ?_
      refine E.get (k := k) rfl rfl (hM.sl 1 rfl) rfl (by omega) Tryd.underlying29 (by kernel_rfl) Tryd.underlying3 rfl rfl rfl ?_
      rw [nz_get hk']
      refine E.asg rfl rfl <| E.nil <| X.next <| C.seq <| C.region <| E.mv rfl rfl <| E.mv rfl rfl <| E.mv rfl rfl <| ?_
      refine E.get (k := (Pf.od l)[k]) rfl rfl (hM.arg0 hr') rfl (by omega) Tryd.underlying29 (by kernel_rfl) Tryd.underlying3 rfl rfl rfl ?_
      rw [nz_get hsl]
      refine E.mv rfl rfl <| ?_
      refine E.subN (a := l[(Pf.od l)[k]]) (b := Pf.szk l k) rfl rfl (by omega) rfl ?_
      refine E.shl rfl rfl (by omega) (shl_nat (by omega) hs4 (by omega)) rfl ?_
      refine E.asg rfl rfl <| E.nil <| X.next <| C.seq <| C.region <| E.mv rfl rfl <| E.mv rfl rfl <| ?_
      refine E.get (k := (Pf.od l)[k]) rfl rfl (hM.arg0 hr') rfl (by omega) Tryd.underlying29 (by kernel_rfl) Tryd.underlying3 rfl rfl rfl ?_
      rw [nz_get hsl]
      refine E.asg rfl rfl <| E.nil <| X.next <| C.seq <| C.region <| E.mv rfl rfl <| E.mv rfl rfl <| E.mv rfl rfl <| ?_
      refine E.idx1 (k := (Pf.od l)[k]) rfl rfl (hM.sl 0 rfl) rfl (by rw [tab_len]; exact hsl) Tryd.underlying29 (by kernel_rfl) rfl ?_
      refine E.storeL 0 (Pf.code l (Pf.od l)[k] : Int) hM rfl rfl rfl (by kernel_rfl) rfl rfl (by rw [tab_len]; exact hsl) ?_
      intro w4 hM
      try dsimp only [List.nil_append, List.cons_append, List.set_cons_zero, List.set_cons_succ, repl] at hM
      rw [hput] at hM
      refine E.nil <| X.next <| C.region <| E.mv rfl rfl <| ?_
      refine E.addN (b := 1) rfl rfl (by omega) rfl ?_
      refine E.asg rfl rfl <| E.nil <| X.outN <| X.next <| C.region <| ?_
      refine E.add rfl rfl (by omega) rfl ?_

      refine E.mv rfl rfl <| E.nil <| X.again1 (k + 1) (Sub.cons (look_val rfl (by rw [hs5])) <| Sub.cons (look_val rfl (by rw [hss])) <| Sub.cons rfl <| Sub.nil _) rfl ⟨hM, by omega⟩ (by omega)
    ·
      obtain rfl : k = (Pf.od l).length := by omega
      refine C.exit <| X.exitT <| X.exitT <| X.outE <| X.next <| C.seq <| C.region <| E.mv rfl rfl <| E.asg rfl rfl <| E.asg rfl rfl <| E.nil <| X.next <| C.ret <| ret2 rfl rfl rfl ?_
      exact ⟨_, by rw [hck], by rw [cdv, if_pos hck, ← hl, ← Pf.cdp_end hb]; exact hM.pick [0] (by decide)⟩

set_option maxHeartbeats 1000000 in
theorem rCodes_ret (p : Value) (zs : List Int) (w : World) (hr : RdL i64 w p zs) :
    Ret Tryd.prog 50 #[p] w fun v w' => ∃ vo, v = .tuple #[vo, i64 (ckv zs)] ∧ M w Nn w' [Rg.sl i64 3 vo (cdv zs)] := by
  have hM := M.start w
  refine enter Tryd.func50 rfl (by kernel_rfl) Tryd.ntmps50 rfl ?_
  refine C.seq <| C.region <| E.asg rfl rfl <| E.asg rfl rfl <| E.nil <| X.next <| C.seq <| C.seq <| C.region <| E.mv rfl rfl <| ?_
  refine E.call rfl rfl (rcheck_ret p zs _ (hM.arg0 hr)) ?_
  rintro _ w1 ⟨rfl, x1⟩
  have hM := hM.ext x1
  try dsimp only [List.nil_append, List.cons_append, List.set_cons_zero, List.set_cons_succ, repl] at hM
  refine E.asg rfl rfl <| E.nil <| X.next <| C.seq <| C.region <| E.mv rfl rfl <| E.bin rfl rfl rfl rfl <| E.nil <| X.next <| ?_
  refine C.cond' rfl (fun hC0 => ?_) (fun hC0 => ?_)
  ·
    have hcv : (if 4096 < zs.length then (4 : Int) else if okr zs 30 = true then 0 else 3) = ckv zs := by unfold ckv; split; rfl; split; rename_i h1 h2; exact (hC0 (by rw [if_neg h1, if_pos h2])).elim; rfl
    rw [hcv] at hC0
    refine C.seq <| C.region <| E.mv rfl rfl <| E.asg rfl rfl <| E.asg rfl rfl <| E.nil <| X.next <| C.ret <| X.retT <| ret2 rfl rfl rfl ?_
    exact ⟨_, by rw [hcv], by rw [cdv, if_neg hC0]; exact hM.nil i64 3⟩
  ·
    obtain ⟨hl4, hok⟩ := wt_ok (Decidable.byContradiction hC0)
    have hkb := kr_bound (toN zs) (toN zs).length (by rw [toN_len]; exact hl4)
    rw [List.take_length] at hkb
    refine C.skip <| X.next <| C.seq <| C.seq <| C.region <| E.mv rfl rfl <| ?_
    refine E.call rfl rfl (rKraft_ret p (toN zs) _ (ok_kr (hM.arg0 hr) hok).1 (ok_kr (hM.arg0 hr) hok).2 (by rw [toN_len]; exact hl4)) ?_
    rintro _ w2 ⟨rfl, x2⟩
    have hM := hM.ext x2
    try dsimp only [List.nil_append, List.cons_append, List.set_cons_zero, List.set_cons_succ, repl] at hM
    refine E.bin rfl rfl rfl rfl <| E.nil <| X.next <| ?_
    refine C.cond' rfl (fun hC1 => ?_) (fun hC1 => ?_)
    ·
      have hck : ckv zs = 27 := by rw [ckv, if_neg (by omega), if_pos hok, if_pos (by omega)]
      refine C.seq <| C.region <| E.asg rfl rfl <| E.asg rfl rfl <| E.nil <| X.next <| C.ret <| X.retT <| ret2 rfl rfl rfl ?_
      exact ⟨_, by rw [hck], by rw [cdv, hck, if_neg (by decide)]; exact hM.nil i64 3⟩
    ·
      have hck : ckv zs = 0 := by rw [ckv, if_neg (by omega), if_pos hok, if_neg (by omega)]
      obtain ⟨hl4, hok, hkr⟩ := ckv_ok hck
      obtain ⟨hr', hb⟩ := ok_kr hr hok
      have hlz := toN_len zs
      obtain ⟨l, hl⟩ : ∃ l, l = toN zs := ⟨_, rfl⟩
      rw [← hl] at hr' hb hkr hlz
      have hnl := nz_len l
      have hod := Pf.od_le l
      refine C.skip <| X.next <| C.seq <| C.region <| E.mv rfl rfl <| ?_
      refine E.lenv rfl (Rd.shape (hM.arg0 hr)) Tryd.underlying29 rfl ?_
      rw [← hlz]
      refine E.makeM (by_ := 8) (enc := i64) 0 hM rfl Tryd.underlying29 (by kernel_rfl) rfl (by first | omega | (simp only [List.length_replicate, List.length_append, List.length_set, List.length_cons, List.length_nil, List.length_map, List.length_range, List.length_take, List.length_drop, List.length_zipWith] at *; omega)) (by first | omega | (simp only [List.length_replicate, List.length_append, List.length_set, List.length_cons, List.length_nil, List.length_map, List.length_range, List.length_take, List.length_drop, List.length_zipWith] at *; omega)) rfl ?_
      intro v19 w2 hM
      try dsimp only [List.nil_append, List.cons_append, List.set_cons_zero, List.set_cons_succ, repl] at hM
      refine E.asg rfl rfl <| E.nil <| X.next <| C.seq <| C.region <| E.asg rfl rfl <| E.nil <| X.next <| C.seq <| C.seq <| C.region <| E.asg rfl rfl <| E.nil <| X.next <| C.block <| ?_

      refine C.loop1 [(0, _), (5, _)] rfl (fun (n : Nat) => [(6, i64 (Pf.nr l n : Int)), (7, i64 n)]) (fun (n : Nat) w' => M w (Nn) w' [Rg.sl i64 3 v19 (tab l.length (Pf.cdp l (Pf.nx l n)))] ∧ 1 ≤ n ∧ n ≤ 31) (fun (n : Nat) => 31 - n) 1 ?_ ?_ ?_
      · exact Sub.cons (look_val rfl (by rw [Pf.nr_one]; rfl)) <| Sub.cons rfl <| Sub.nil _
      · exact ⟨hM.to (by rw [Pf.cdp_zero]; rfl), by omega, by omega⟩
      rintro n w3 ⟨hM, hn0, hn1⟩
      refine C.seq <| C.seq <| C.region <| E.mv rfl rfl <| E.bin rfl rfl rfl rfl <| E.nil <| X.next <| ?_
      refine C.cond' rfl (fun hC2 => ?_) (fun hC2 => ?_)
      ·
        have hn' : n ≤ 30 := by omega
        have hnl2 := Pf.nr_le hb hkr hn1
        refine C.skip <| X.next <| C.seq <| C.block <| C.seq <| C.region <| E.mv rfl rfl <| ?_
        refine E.mulN (a := 2) (b := Pf.nr l n) rfl rfl (by omega) rfl ?_
        rw [Pf.np_zero hn0 hn']
        refine E.asg rfl rfl <| E.nil <| X.next <| C.seq <| C.region <| E.asg rfl rfl <| E.nil <| X.next <| C.block <| ?_

        refine C.loop1 [(0, _), (5, _), (7, _)] rfl (fun (i : Nat) => [(6, i64 (Pf.np l n i : Int)), (8, i64 i)]) (fun (i : Nat) w' => M w (Nn) w' [Rg.sl i64 3 v19 (tab l.length (Pf.cdp l (Pf.nx l n + Pf.cnt l i n)))] ∧ i ≤ l.length) (fun (i : Nat) => l.length - i) 0 ?_ ?_ ?_
        · exact Sub.cons rfl <| Sub.cons rfl <| Sub.nil _
        · exact ⟨hM.to (by rw [Pf.cnt_zero, Nat.add_zero]), Nat.zero_le _⟩
        rintro i w4 ⟨hM, hi⟩
        refine C.seq <| C.seq <| C.region <| E.mv rfl rfl <| E.mv rfl rfl <| ?_
        refine E.lenv rfl (Rd.shape (hM.arg0 hr)) Tryd.underlying29 rfl ?_
        rw [← hlz]
        refine E.bin rfl rfl rfl rfl <| E.nil <| X.next <| ?_
        refine C.cond' rfl (fun hC3 => ?_) (fun hC3 => ?_)
        ·
          have hi' : i < l.length := by omega
          have hbi := hb l[i] (List.getElem_mem hi')
          have hpl := Pf.np_le hb hkr hn' hi
          refine C.skip <| X.next <| ?_

          refine C.cut0 [(0, _), (5, _), (7, _), (8, _)] rfl [(6, i64 (Pf.np l n (i + 1) : Int))] (fun w' => M w (Nn) w' [Rg.sl i64 3 v19 (tab l.length (Pf.cdp l (Pf.nx l n + Pf.cnt l (i + 1) n)))]) ?_ ?_
          ·
            refine C.block <| C.seq <| C.region <| E.mv rfl rfl <| E.mv rfl rfl <| ?_
            refine E.get (k := i) rfl rfl (hM.arg0 hr') rfl (by omega) Tryd.underlying29 (by kernel_rfl) Tryd.underlying3 rfl rfl rfl ?_
            rw [nz_get hi']
            refine E.mv rfl rfl <| E.bin rfl rfl rfl rfl <| E.nil <| X.next <| ?_
            refine C.cond' rfl (fun hC4 => ?_) (fun hC4 => ?_)
            ·
              obtain rfl : n = l[i] := by omega
              obtain ⟨hq1, hq2, hq3⟩ := Pf.np_put hi' hn0 hn'
              refine C.seq <| C.region <| E.mv rfl rfl <| E.mv rfl rfl <| E.mv rfl rfl <| ?_
              refine E.idx1 (k := i) rfl rfl (hM.sl 0 rfl) rfl (by rw [tab_len]; exact hi') Tryd.underlying29 (by kernel_rfl) rfl ?_
              refine E.storeL 0 (Pf.np l l[i] i : Int) hM rfl rfl rfl (by kernel_rfl) rfl rfl (by rw [tab_len]; exact hi') ?_
              intro w5 hM
              try dsimp only [List.nil_append, List.cons_append, List.set_cons_zero, List.set_cons_succ, repl] at hM
              rw [hq1, hq3] at hM
              refine E.nil <| X.next <| C.region <| E.mv rfl rfl <| ?_
              refine E.addN (b := 1) rfl rfl (by omega) rfl ?_

              refine E.asg rfl rfl <| E.nil <| X.outN <| X.join0  (Sub.cons (look_val rfl (by rw [hq2])) <| Sub.nil _) rfl hM
            ·
              have hsk := Pf.np_skip (n := n) hi' (by omega)

              refine C.skip <| X.outN <| X.join0  (Sub.cons (look_val rfl (by unfold Pf.np; rw [hsk])) <| Sub.nil _) rfl (hM.to (by rw [hsk]))
          rintro  w6 hM
          refine C.region <| E.mv rfl rfl <| ?_
          refine E.add rfl rfl (by omega) rfl ?_

          refine E.asg rfl rfl <| E.nil <| X.again1 (i + 1) (Sub.cons rfl <| Sub.cons rfl <| Sub.nil _) rfl ⟨hM, by omega⟩ (by omega)
        ·
          obtain rfl : i = l.length := by omega
          rw [← Pf.nx_succ] at hM
          refine C.exit <| X.exitT <| X.exitT <| X.outE <| X.outN <| X.next <| C.region <| E.mv rfl rfl <| ?_
          refine E.add rfl rfl (by omega) rfl ?_

          refine E.asg rfl rfl <| E.nil <| X.again1 (n + 1) (Sub.cons (look_val rfl (by rw [Pf.np_end l hn'])) <| Sub.cons rfl <| Sub.nil _) rfl ⟨hM, by omega, by omega⟩ (by omega)
      ·
        obtain rfl : n = 31 := by omega
        rw [Pf.nx_last] at hM
        refine C.exit <| X.exitT <| X.exitT <| X.outE <| X.next <| C.seq <| C.region <| E.mv rfl rfl <| E.asg rfl rfl <| E.asg rfl rfl <| E.nil <| X.next <| C.ret <| ret2 rfl rfl rfl ?_
        exact ⟨_, by rw [hck], by rw [cdv, if_pos hck, ← hl, ← Pf.cdp_end hb]; exact hM.pick [0] (by decide)⟩

end Go.Proofs.YtcmgbjmcklfkcaaDoor

/- Small facts that the walks want: numbers of 32 and 8 bits as bit vectors; a slice that reads as a list; worlds that only grew. No program in sight. -/
namespace Go.Proofs.YtcmgbjmcklfkcaaDoor
set_option linter.unusedSimpArgs false
set_option linter.unusedVariables false
open Go.RowKit

section bits
theorem ofInt_toNat32 (x : BitVec 32) : BitVec.ofInt 32 (x.toNat : Int) = x := by
  apply BitVec.eq_of_toNat_eq; simp
theorem wrap32_toNat (x : BitVec 32) : IntKind.u32.wrap (x.toNat : Int) = x.toNat := IntWalk.u32_in _ (by have := x.isLt; omega)
theorem bits_xor32 (x y : BitVec 32) : bits .xor .u32 (x.toNat : Int) (y.toNat : Int) = ((x ^^^ y).toNat : Int) := by
  rw [u32_xor_nat _ _ x.isLt y.isLt]; rfl
theorem bits_and32 (x y : BitVec 32) : bits .and .u32 (x.toNat : Int) (y.toNat : Int) = ((x &&& y).toNat : Int) := by
  rw [u32_and_nat _ _ x.isLt y.isLt]; rfl
theorem bits_or32 (x y : BitVec 32) : bits .or .u32 (x.toNat : Int) (y.toNat : Int) = ((x ||| y).toNat : Int) := by
  rw [u32_or_nat _ _ x.isLt y.isLt]; rfl
theorem shr32 (x : BitVec 32) (k : Nat) : ((x >>> k).toNat : Int) = (x.toNat : Int) / 2 ^ k := by
  rw [BitVec.toNat_ushiftRight, Nat.shiftRight_eq_div_pow]; simp
theorem lt32 (x : BitVec 32) : 0 ≤ (x.toNat : Int) ∧ (x.toNat : Int) ≤ 4294967295 := by have := x.isLt; omega
theorem lsb32 (x : BitVec 32) : (bits .and .u32 (x.toNat : Int) 1 == 1) = x.getLsbD 0 := by
  have h : bits .and .u32 (x.toNat : Int) 1 = ((x &&& 1#32).toNat : Int) := bits_and32 x 1#32
  rw [h]
  have e : (x &&& 1#32).toNat = x.toNat % 2 := by
    rw [BitVec.toNat_and]; exact Nat.and_one_is_mod _
  rw [e]
  have : x.getLsbD 0 = decide (x.toNat % 2 = 1) := by
    simp [BitVec.getLsbD, Nat.testBit_zero]
  rw [this, Bool.eq_iff_iff]
  simp only [beq_iff_eq, decide_eq_true_eq]
  omega
theorem wrap64_nat (r : Nat) (h : r < 9223372036854775808) : IntKind.i64.wrap (r : Int) = r := IntWalk.i64_in _ (by omega)
theorem ofInt_u64' (a : Nat) (ha : a < 9223372036854775808) : (BitVec.ofInt 64 (a : Int)).toNat = a := ofInt_u64 a (by omega)
theorem i64_and_nat (a b : Nat) (ha : a < 9223372036854775808) (hb : b < 9223372036854775808) : bits .and .i64 (a : Int) (b : Int) = ((a &&& b : Nat) : Int) := by
  show IntKind.i64.wrap (((BitVec.ofInt 64 (a : Int)) &&& (BitVec.ofInt 64 (b : Int))).toNat : Int) = _
  rw [BitVec.toNat_and, ofInt_u64' a ha, ofInt_u64' b hb]
  exact wrap64_nat _ (Nat.lt_of_le_of_lt Nat.and_le_left ha)
theorem i64_or_nat (a b : Nat) (ha : a < 9223372036854775808) (hb : b < 9223372036854775808) : bits .or .i64 (a : Int) (b : Int) = ((a ||| b : Nat) : Int) := by
  show IntKind.i64.wrap (((BitVec.ofInt 64 (a : Int)) ||| (BitVec.ofInt 64 (b : Int))).toNat : Int) = _
  rw [BitVec.toNat_or, ofInt_u64' a ha, ofInt_u64' b hb]
  exact wrap64_nat _ (Nat.or_lt_two_pow (n := 63) ha hb)
theorem i64_xor_nat (a b : Nat) (ha : a < 9223372036854775808) (hb : b < 9223372036854775808) : bits .xor .i64 (a : Int) (b : Int) = ((a ^^^ b : Nat) : Int) := by
  show IntKind.i64.wrap (((BitVec.ofInt 64 (a : Int)) ^^^ (BitVec.ofInt 64 (b : Int))).toNat : Int) = _
  rw [BitVec.toNat_xor, ofInt_u64' a ha, ofInt_u64' b hb]
  exact wrap64_nat _ (Nat.xor_lt_two_pow (n := 63) ha hb)
end bits
end Go.Proofs.YtcmgbjmcklfkcaaDoor

/- prefix: bits; Encode. -/
namespace Go.Proofs.YtcmgbjmcklfkcaaDoor
set_option linter.unusedSimpArgs false
set_option linter.unusedVariables false
open Go.RowKit Sym

theorem cdl_get {l : List Nat} {i : Nat} (h : i < (Pf.cdl l).length) : (Pf.cdl l)[i] = (Pf.code l i : Int) := by simp [Pf.cdl, tab]
theorem cdl_len (l : List Nat) : (Pf.cdl l).length = l.length := tab_len _ _
theorem shr_nat {c k : Nat} (hk : k ≤ 62) : (c : Int) / 2 ^ min ((k : Int)).toNat IntKind.i64.bits = ((c / 2 ^ k : Nat) : Int) := by
  have e1 : min ((k : Int)).toNat IntKind.i64.bits = k := by rw [Int.toNat_natCast]; simp [IntKind.bits]; omega
  rw [e1]; simp
theorem band1 (m : Nat) (h : m ≤ 9223372036854775807) : bits .and .i64 (m : Int) 1 = ((m % 2 : Nat) : Int) := by
  have h1 := i64_and_nat m 1 (by omega) (by omega)
  rw [Nat.and_one_is_mod] at h1
  exact h1
/-- bit a of a code of n bits, from the first -/
def bt (c n a : Nat) : Bool := decide (c / 2 ^ (n - 1 - a) % 2 = 1)
/-- n bits of a number -/
def btv (c n : Nat) : List Bool := tab n (bt c n)
theorem btv_len (c n : Nat) : (btv c n).length = n := tab_len _ _
/-- what Encode answers -/
noncomputable def ecv (l : List Nat) : List Bool → List Int → List Bool × Int
  | b, [] => (b, 0)
  | b, s :: ss => if s < 0 ∨ (l.length : Int) ≤ s then ([], 3) else if l.getD s.toNat 0 = 0 then ([], 29) else if 1048576 < b.length + l.getD s.toNat 0 then ([], 4) else ecv l (b ++ btv (Pf.code l s.toNat) (l.getD s.toNat 0)) ss
noncomputable def env (zs ss : List Int) : List Bool × Int := if ckv zs = 0 then ecv (toN zs) [] ss else ([], ckv zs)
theorem env_ok {zs ss : List Int} (h : ckv zs = 0) : env zs ss = ecv (toN zs) [] ss := by rw [env, if_pos h]
theorem env_bad {zs ss : List Int} (h : ¬ ckv zs = 0) : env zs ss = ([], ckv zs) := by rw [env, if_neg h]
theorem drop_cons {α : Type} {l : List α} {i : Nat} (h : i < l.length) : l.drop i = l[i] :: l.drop (i + 1) := List.drop_eq_getElem_cons h
theorem code_big {l : List Nat} (h : ∀ n ∈ l, n ≤ 30) (hk : Pf.kr l ≤ 1073741824) (i : Nat) : Pf.code l i ≤ 1073741824 := by
  by_cases hi : i ∈ Pf.od l
  · exact Nat.le_of_lt (Pf.code_le h hk hi)
  · unfold Pf.code
    split
    · omega
    · exact Nat.le_trans (Nat.div_le_self _ _) (Pf.Kp_le h hk (by rw [List.idxOf_eq_length hi]; exact Nat.le_refl _))
/-- the number that bits make -/
def bvl (bs : List Bool) : Nat := bs.foldl (fun v x => 2 * v + (if x then 1 else 0)) 0
def tkv (b : List Bool) (at_ n : Nat) : Nat := bvl ((b.drop at_).take n)
theorem tkv_zero (b : List Bool) (a : Nat) : tkv b a 0 = 0 := by simp [tkv, bvl]
theorem tkv_succ {b : List Bool} {a n : Nat} (h : a + n < b.length) : tkv b a (n + 1) = 2 * tkv b a n + (if b[a + n] then 1 else 0) := by
  unfold tkv bvl
  rw [← List.take_append_getElem (show n < (b.drop a).length by rw [List.length_drop]; omega), List.foldl_append, List.getElem_drop]; rfl
theorem tkv_lt {b : List Bool} {a : Nat} : ∀ {n : Nat}, a + n ≤ b.length → tkv b a n < 2 ^ n := by
  intro n
  induction n with
  | zero => intro _; rw [tkv_zero]; decide
  | succ n ih =>
    intro h
    have := ih (by omega)
    rw [tkv_succ (by omega), Nat.pow_succ]
    split <;> omega
theorem tkv_div {b : List Bool} {a j n : Nat} (hj : j ≤ n) (h : a + n ≤ b.length) : tkv b a n / 2 ^ (n - j) = tkv b a j := by
  induction n with
  | zero => obtain rfl : j = 0 := by omega
            simp
  | succ n ih =>
    by_cases e : j = n + 1
    · subst e; simp
    · rw [show n + 1 - j = (n - j) + 1 by omega, Nat.pow_succ, Nat.mul_comm, ← Nat.div_div_eq_div_mul, tkv_succ (by omega), ← ih (by omega) (by omega)]
      congr 1
      split <;> omega
theorem tkv_40 {b : List Bool} {a n : Nat} (hn : n ≤ 40) (h : a + n ≤ b.length) : tkv b a n < 1099511627776 := by
  have h1 := tkv_lt h
  have h2 : 2 ^ n ≤ 2 ^ 40 := Nat.pow_le_pow_right (by decide) hn
  omega
end Go.Proofs.YtcmgbjmcklfkcaaDoor
