/- Texts of the claim, laid together: Pf4. -/
import Derived.Test.YtcmgbjmcklfkcaaDoorG12
/- prefix: the symbols in order. -/
namespace Go.Proofs.YtcmgbjmcklfkcaaDoor
set_option linter.unusedSimpArgs false
set_option linter.unusedVariables false
open Go.RowKit Sym

namespace Pf
theorem getD_eq {l : List Nat} {i : Nat} (h : i < l.length) : l.getD i 0 = l[i] := by rw [List.getD_eq_getElem?_getD, List.getElem?_eq_getElem h]; rfl
theorem sy_snoc {l : List Nat} {i n : Nat} (hi : i < l.length) : sy (l.take (i + 1)) n = sy (l.take i) n ++ (if l[i] = n then [i] else []) := by
  unfold sy
  rw [List.length_take, List.length_take, Nat.min_eq_left (by omega), Nat.min_eq_left (by omega), List.range_succ, List.filter_append]
  congr 1
  · refine List.filter_congr fun j hj => ?_
    have hj := List.mem_range.1 hj
    rw [List.getD_eq_getElem?_getD, List.getD_eq_getElem?_getD, List.getElem?_take, List.getElem?_take, if_pos hj, if_pos (by omega)]
  · have e : (l.take (i + 1)).getD i 0 = l[i] := by rw [List.getD_eq_getElem?_getD, List.getElem?_take, if_pos (by omega), List.getElem?_eq_getElem hi]; rfl
    by_cases h : l[i] = n
    · rw [if_pos h]; simp only [List.filter, e, decide_eq_true h]
    · rw [if_neg h]; simp only [List.filter, e, decide_eq_false h]
/-- how many of the first i symbols have length n -/
def cnt (l : List Nat) (i n : Nat) : Nat := if n = 0 then 0 else (sy (l.take i) n).length
theorem cnt_zero (l : List Nat) (n : Nat) : cnt l 0 n = 0 := by unfold cnt sy; split <;> simp
theorem cnt_succ {l : List Nat} {i : Nat} (hi : i < l.length) (n : Nat) : cnt l (i + 1) n = cnt l i n + (if n ≠ 0 ∧ n = l[i] then 1 else 0) := by
  unfold cnt
  by_cases h0 : n = 0
  · rw [if_pos h0, if_pos h0, if_neg (by omega)]
  · rw [if_neg h0, if_neg h0, sy_snoc hi, List.length_append]
    by_cases h : l[i] = n
    · rw [if_pos h, if_pos ⟨h0, h.symm⟩]; rfl
    · rw [if_neg h, if_neg (by omega)]; rfl
/-- where the symbols of length n begin -/
def nx (l : List Nat) (n : Nat) : Nat := (ord l (n - 1)).length
theorem nx_succ (l : List Nat) (n : Nat) : nx l (n + 1) = nx l n + cnt l l.length n := by
  unfold nx cnt
  rw [List.take_length]
  cases n with
  | zero => rfl
  | succ n => rw [if_neg (by omega)]; show (ord l (n + 1)).length = _; rw [ord, List.length_append]; rfl
theorem nx_last (l : List Nat) : nx l 31 = (od l).length := by rw [od_eq]; rfl
theorem sy_ex {l : List Nat} {i : Nat} (hi : i < l.length) : ∃ t, sy l l[i] = sy (l.take i) l[i] ++ i :: t := by
  have key : ∀ m, i < m → m ≤ l.length → ∃ t, sy (l.take m) l[i] = sy (l.take i) l[i] ++ i :: t := by
    intro m
    induction m with
    | zero => intro h; omega
    | succ m ih =>
      intro h1 h2
      by_cases e : i = m
      · subst e; exact ⟨[], by rw [sy_snoc hi, if_pos rfl]⟩
      · obtain ⟨t, ht⟩ := ih (by omega) (by omega)
        exact ⟨t ++ (if l[m] = l[i] then [m] else []), by rw [sy_snoc (by omega), ht]; simp⟩
  have := key l.length hi (Nat.le_refl _)
  rwa [List.take_length] at this
theorem ord_ex {l : List Nat} {n m : Nat} (h0 : 1 ≤ n) (h : n ≤ m) : ∃ t, ord l m = ord l (n - 1) ++ sy l n ++ t := by
  induction m with
  | zero => omega
  | succ m ih =>
    by_cases e : n = m + 1
    · subst e; exact ⟨[], by rw [ord, List.append_nil]; rfl⟩
    · obtain ⟨t, ht⟩ := ih (by omega)
      exact ⟨t ++ sy l (m + 1), by rw [ord, ht]; simp⟩
/-- the place of a symbol in the order -/
theorem od_place {l : List Nat} {i : Nat} (hi : i < l.length) (h0 : 1 ≤ l[i]) (h : l[i] ≤ 30) : (od l)[nx l l[i] + cnt l i l[i]]? = some i := by
  obtain ⟨t, ht⟩ := ord_ex (l := l) h0 h
  obtain ⟨t', ht'⟩ := sy_ex hi
  have hc : cnt l i l[i] = (sy (l.take i) l[i]).length := by rw [cnt, if_neg (by omega)]
  rw [od_eq, ht, ht', hc, nx, List.append_assoc, List.getElem?_append_right (by omega), Nat.add_sub_cancel_left, List.append_assoc, List.getElem?_append_right (by omega), Nat.sub_self]; rfl
theorem nd_le : ∀ (m : Nat) (os : List Nat), os.Nodup → (∀ x ∈ os, x < m) → os.length ≤ m
  | 0, [], _, _ => Nat.le_refl _
  | 0, a :: os, _, h => absurd (h a (by simp)) (by omega)
  | m + 1, os, hn, h => by
    by_cases hm : m ∈ os
    · have h1 := nd_le m (os.erase m) (hn.erase m) fun x hx => by
        have := (List.Nodup.mem_erase_iff hn).1 hx
        have := h x this.2; omega
      rw [List.length_erase_of_mem hm] at h1; omega
    · have := nd_le m os hn fun x hx => by
        have h1 := h x hx
        have : x ≠ m := fun e => hm (e ▸ hx)
        omega
      omega
theorem od_le (l : List Nat) : (od l).length ≤ l.length := nd_le _ _ (od_nodup l) fun i hi => (od_mem.1 hi).1
/-- the symbols laid so far: those below i -/
noncomputable def lay (l : List Nat) (i a : Nat) : Int := if (od l).getD a 0 < i then (((od l).getD a 0 : Nat) : Int) else 0
theorem lay_end {l : List Nat} : tab (od l).length (lay l l.length) = nz (od l) := by
  refine (tab_eq (by rw [nz_len]) fun a ha => ?_).symm
  have hm := (od_mem.1 (List.getElem_mem ha)).1
  unfold nz lay
  rw [List.getElem?_map, List.getElem?_eq_getElem ha, getD_eq ha, if_pos hm]; rfl
theorem lay_skip {l : List Nat} {i a : Nat} (hi : i < l.length) (h : l[i] = 0) (ha : a < (od l).length) : lay l i a = lay l (i + 1) a := by
  have hm := (od_mem.1 (List.getElem_mem ha)).2.1
  unfold lay
  rw [getD_eq ha]
  by_cases e : (od l)[a] = i
  · rw [e, getD_eq hi] at hm; omega
  · by_cases e2 : (od l)[a] < i
    · rw [if_pos e2, if_pos (by omega)]
    · rw [if_neg e2, if_neg (by omega)]
theorem lay_put {l : List Nat} {i : Nat} (hi : i < l.length) (h0 : 1 ≤ l[i]) (h : l[i] ≤ 30) : nx l l[i] + cnt l i l[i] < (od l).length ∧ (tab (od l).length (lay l i)).set (nx l l[i] + cnt l i l[i]) (i : Int) = tab (od l).length (lay l (i + 1)) := by
  have hp := od_place hi h0 h
  obtain ⟨hlt, he⟩ := List.getElem?_eq_some_iff.1 hp
  refine ⟨hlt, tab_eq (by simp [tab_len]) fun a ha => ?_⟩
  by_cases e : nx l l[i] + cnt l i l[i] = a
  · subst e
    rw [List.getElem?_set_self (by simpa [tab_len] using ha)]
    unfold lay
    rw [getD_eq ha, he, if_pos (by omega)]
  · rw [List.getElem?_set_ne e, tab_get ha]
    unfold lay
    rw [getD_eq ha]
    have hne : (od l)[a] ≠ i := fun e2 => by
      have e3 := (od_nodup l).idxOf_getElem _ hlt
      have e4 := (od_nodup l).idxOf_getElem a ha
      rw [he] at e3; rw [e2] at e4; omega
    by_cases e2 : (od l)[a] < i
    · rw [if_pos e2, if_pos (by omega)]
    · rw [if_neg e2, if_neg (by omega)]
theorem nx_le {l : List Nat} {n : Nat} (h : n ≤ 31) : nx l n ≤ (od l).length := by
  have key : ∀ m, n ≤ m → nx l n ≤ nx l m := by
    intro m
    induction m with
    | zero => intro h; obtain rfl : n = 0 := by omega
              exact Nat.le_refl _
    | succ m ih =>
      intro h
      by_cases e : n = m + 1
      · subst e; exact Nat.le_refl _
      · have := ih (by omega); rw [nx_succ]; omega
  rw [← nx_last]; exact key 31 h
theorem cnt_le {l : List Nat} {i n : Nat} (hi : i ≤ l.length) : cnt l i n ≤ i := by
  unfold cnt
  split
  · omega
  · have := List.length_filter_le (fun j => decide ((l.take i).getD j 0 = n)) (List.range (l.take i).length)
    rw [List.length_range] at this
    refine Nat.le_trans this ?_
    rw [List.length_take]; omega
theorem lay_zero (l : List Nat) : List.replicate (od l).length 0 = tab (od l).length (lay l 0) := tab_eq (by simp) fun a ha => by rw [List.getElem?_replicate, if_pos ha]; unfold lay; rw [if_neg (by omega)]
theorem cnt_upd {l : List Nat} {i : Nat} (hi : i < l.length) (h0 : l[i] ≠ 0) (k : Nat) : Sym.upd (fun n => (cnt l i n : Int)) l[i] ((cnt l i l[i] : Int) + 1) k = (cnt l (i + 1) k : Int) := by
  rw [cnt_succ hi k]; unfold Sym.upd
  by_cases e : k = l[i]
  · rw [if_pos e, if_pos (by omega), e]; omega
  · rw [if_neg e, if_neg (by omega)]; rfl
theorem cnt_same {l : List Nat} {i : Nat} (hi : i < l.length) (h0 : l[i] = 0) (k : Nat) : cnt l (i + 1) k = cnt l i k := by rw [cnt_succ hi k, if_neg (by omega)]; rfl
theorem nx_init (l : List Nat) (j : Nat) : (0 : Int) = if j ≤ 0 then (nx l j : Int) else 0 := by
  by_cases e : j = 0
  · subst e; rfl
  · rw [if_neg (by omega)]
theorem nx_upd (l : List Nat) (k j : Nat) : Sym.upd (fun n => if n ≤ k then (nx l n : Int) else 0) (k + 1) ((nx l k : Int) + (cnt l l.length k : Int)) j = if j ≤ k + 1 then (nx l j : Int) else 0 := by
  unfold Sym.upd
  by_cases e : j = k + 1
  · rw [if_pos e, if_pos (by omega), e, nx_succ]; omega
  · rw [if_neg e]
    by_cases e2 : j ≤ k
    · rw [if_pos (by omega)]; show (if j ≤ k then _ else _) = _; rw [if_pos e2]
    · rw [if_neg (by omega)]; show (if j ≤ k then _ else _) = _; rw [if_neg e2]
theorem n2_upd {l : List Nat} {i : Nat} (hi : i < l.length) (h0 : l[i] ≠ 0) (k : Nat) : Sym.upd (fun n => ((nx l n + cnt l i n : Nat) : Int)) l[i] ((nx l l[i] + cnt l i l[i] + 1 : Nat) : Int) k = ((nx l k + cnt l (i + 1) k : Nat) : Int) := by
  rw [cnt_succ hi k]; unfold Sym.upd
  by_cases e : k = l[i]
  · rw [if_pos e, if_pos (by omega), e]; omega
  · rw [if_neg e, if_neg (by omega)]; rfl
end Pf
theorem Sym.two {a a' b b' : Rg} (h1 : a = a') (h2 : b = b') : [a, b] = [a', b'] := by rw [h1, h2]
set_option maxHeartbeats 2000000 in
theorem ordered_ret (p : Value) (l : List Nat) (w : World) (hr : RdL i64 w p (nz l)) (hb : ∀ n ∈ l, n ≤ 30) (hlen : l.length ≤ 4096) :
    Ret Tryd.prog 80 #[p] w fun v w' => M w Nn w' [Rg.sl i64 3 v (nz (Pf.od l))] := by
  have hM := M.start w
  refine enter Tryd.func80 rfl (by kernel_rfl) Tryd.ntmps80 rfl ?_
  refine C.seq <| C.region <| E.asg rfl rfl <| E.nil <| X.next <| C.seq <| C.region <| ?_
  refine E.allocM (z := .agg #[.int .i64 0, .int .i64 0, .int .i64 0, .int .i64 0, .int .i64 0, .int .i64 0, .int .i64 0, .int .i64 0, .int .i64 0, .int .i64 0, .int .i64 0, .int .i64 0, .int .i64 0, .int .i64 0, .int .i64 0, .int .i64 0, .int .i64 0, .int .i64 0, .int .i64 0, .int .i64 0, .int .i64 0, .int .i64 0, .int .i64 0, .int .i64 0, .int .i64 0, .int .i64 0, .int .i64 0, .int .i64 0, .int .i64 0, .int .i64 0, .int .i64 0, .int .i64 0]) (cs := [.int .i64 0, .int .i64 0, .int .i64 0, .int .i64 0, .int .i64 0, .int .i64 0, .int .i64 0, .int .i64 0, .int .i64 0, .int .i64 0, .int .i64 0, .int .i64 0, .int .i64 0, .int .i64 0, .int .i64 0, .int .i64 0, .int .i64 0, .int .i64 0, .int .i64 0, .int .i64 0, .int .i64 0, .int .i64 0, .int .i64 0, .int .i64 0, .int .i64 0, .int .i64 0, .int .i64 0, .int .i64 0, .int .i64 0, .int .i64 0, .int .i64 0, .int .i64 0]) hM (by kernel_rfl) rfl rfl ?_
  intro b3 w0 hM
  try dsimp only [List.nil_append, List.cons_append, List.set_cons_zero, List.set_cons_succ, repl] at hM
  refine E.allocM (z := .agg #[.int .i64 0, .int .i64 0, .int .i64 0, .int .i64 0, .int .i64 0, .int .i64 0, .int .i64 0, .int .i64 0, .int .i64 0, .int .i64 0, .int .i64 0, .int .i64 0, .int .i64 0, .int .i64 0, .int .i64 0, .int .i64 0, .int .i64 0, .int .i64 0, .int .i64 0, .int .i64 0, .int .i64 0, .int .i64 0, .int .i64 0, .int .i64 0, .int .i64 0, .int .i64 0, .int .i64 0, .int .i64 0, .int .i64 0, .int .i64 0, .int .i64 0, .int .i64 0]) (cs := [.int .i64 0, .int .i64 0, .int .i64 0, .int .i64 0, .int .i64 0, .int .i64 0, .int .i64 0, .int .i64 0, .int .i64 0, .int .i64 0, .int .i64 0, .int .i64 0, .int .i64 0, .int .i64 0, .int .i64 0, .int .i64 0, .int .i64 0, .int .i64 0, .int .i64 0, .int .i64 0, .int .i64 0, .int .i64 0, .int .i64 0, .int .i64 0, .int .i64 0, .int .i64 0, .int .i64 0, .int .i64 0, .int .i64 0, .int .i64 0, .int .i64 0, .int .i64 0]) hM (by kernel_rfl) rfl rfl ?_
  intro b4 w1 hM
  try dsimp only [List.nil_append, List.cons_append, List.set_cons_zero, List.set_cons_succ, repl] at hM
  refine E.nil <| X.next <| C.seq <| C.seq <| C.region <| E.mv rfl rfl <| ?_
  have hnl := nz_len l
  have hod := Pf.od_le l
  have hM : M w Nn _ [Sym.Ar b3 141 32 (fun n => (Pf.cnt l 0 n : Int)), Sym.Ar b4 141 32 (fun _ => 0)] := hM.to (Sym.two ((congrArg (Rg.blk b3 141) (show _ = (tab 32 (fun _ => (0 : Int))).map i64 from rfl)).trans ((Sym.Ar_eq _ _ _ _).symm.trans (Sym.Ar_congr fun k _ => by rw [Pf.cnt_zero]; rfl))) ((congrArg (Rg.blk b4 141) (show _ = (tab 32 (fun _ => (0 : Int))).map i64 from rfl)).trans (Sym.Ar_eq _ _ _ _).symm))
  refine E.lenv rfl (Rd.shape (hM.arg0 hr)) Tryd.underlying29 rfl ?_
  rw [nz_len]
  refine E.mv rfl rfl <| E.nil <| X.next <| C.block <| ?_

  refine C.loop1 [(0, _), (3, _), (4, _), (11, _), (12, _)] rfl (fun (i : Nat) => [(13, i64 i)]) (fun (i : Nat) w' => M w (Nn) w' [Sym.Ar b3 141 32 (fun n => (Pf.cnt l i n : Int)), Sym.Ar b4 141 32 (fun _ => 0)] ∧ i ≤ l.length) (fun (i : Nat) => l.length - i) 0 ?_ ?_ ?_
  · exact Sub.cons rfl <| Sub.nil _
  · exact ⟨hM, Nat.zero_le _⟩
  rintro i w2 ⟨hM, hi⟩
  refine C.seq <| C.region <| E.bin rfl rfl rfl rfl <| E.nil <| X.next <| C.seq <| ?_
  refine C.cond' rfl (fun hC0 => ?_) (fun hC0 => ?_)
  ·
    have hi' : i < l.length := by omega
    have hbi := hb l[i] (List.getElem_mem hi')
    have hcl := Pf.cnt_le (n := l[i]) hi
    refine C.skip <| X.next <| ?_

    refine C.cut0 [(0, _), (3, _), (4, _), (11, _), (12, _), (13, _)] rfl [] (fun w' => M w (Nn) w' [Sym.Ar b3 141 32 (fun n => (Pf.cnt l (i + 1) n : Int)), Sym.Ar b4 141 32 (fun _ => 0)]) ?_ ?_
    ·
      refine C.block <| C.seq <| C.region <| ?_
      refine E.get (k := i) rfl rfl (hM.arg0 hr) rfl (by omega) Tryd.underlying29 (by kernel_rfl) Tryd.underlying3 rfl rfl rfl ?_
      rw [nz_get hi']
      refine E.asg rfl rfl <| E.nil <| X.next <| C.seq <| C.region <| E.mv rfl rfl <| E.bin rfl rfl rfl rfl <| E.nil <| X.next <| ?_
      refine C.cond' rfl (fun hC1 => ?_) (fun hC1 => ?_)
      ·
        refine C.region <| E.mv rfl rfl <| ?_
        refine E.idxN (i := l[i]) rfl rfl Tryd.underlying141 (by kernel_rfl) (by omega) rfl ?_
        refine E.load rfl Tryd.underlying3 rfl (hM.arr 0 rfl (by omega)) rfl ?_
        refine E.add rfl rfl (by omega) rfl ?_
        refine E.idxN (i := l[i]) rfl rfl Tryd.underlying141 (by kernel_rfl) (by omega) rfl ?_
        refine E.storeAr 0 _ hM rfl rfl rfl (by kernel_rfl) (by omega) ?_
        intro w3 hM
        try dsimp only [List.nil_append, List.cons_append, List.set_cons_zero, List.set_cons_succ, repl] at hM

        refine E.nil <| X.outN <| X.join0  (Sub.nil _) rfl (hM.to (Sym.two (Sym.Ar_congr fun k _ => Pf.cnt_upd hi' (by omega) k) rfl))
      ·

        refine C.skip <| X.outN <| X.join0  (Sub.nil _) rfl (hM.to (Sym.two (Sym.Ar_congr fun k _ => by rw [Pf.cnt_same hi' (by omega)]) rfl))
    rintro  w4 hM
    refine C.region <| ?_
    refine E.add rfl rfl (by omega) rfl ?_

    refine E.mv rfl rfl <| E.nil <| X.again1 (i + 1) (Sub.cons rfl <| Sub.nil _) rfl ⟨hM, by omega⟩ (by omega)
  ·
    obtain rfl : i = l.length := by omega
    refine C.exit <| X.exitT <| X.exitT <| X.outE <| X.next <| C.seq <| C.seq <| C.region <| E.mv rfl rfl <| E.nil <| X.next <| C.block <| ?_

    refine C.loop1 [(0, _), (3, _), (4, _)] rfl (fun (k : Nat) => [(25, i64 k)]) (fun (k : Nat) w' => M w (Nn) w' [Sym.Ar b3 141 32 (fun n => (Pf.cnt l l.length n : Int)), Sym.Ar b4 141 32 (fun n => if n ≤ k then (Pf.nx l n : Int) else 0)] ∧ k ≤ 31) (fun (k : Nat) => 31 - k) 0 ?_ ?_ ?_
    · exact Sub.cons rfl <| Sub.nil _
    · exact ⟨hM.to (Sym.two rfl (Sym.Ar_congr fun k _ => Pf.nx_init l k)), by omega⟩
    rintro k w5 ⟨hM, hk⟩
    refine C.seq <| C.region <| E.bin rfl rfl rfl rfl <| E.nil <| X.next <| C.seq <| ?_
    refine C.cond' rfl (fun hC2 => ?_) (fun hC2 => ?_)
    ·
      have hn1 := Pf.nx_le (l := l) (show k ≤ 31 by omega)
      have hn2 := Pf.cnt_le (n := k) (Nat.le_refl l.length)
      refine C.skip <| X.next <| C.seq <| C.block <| C.seq <| C.region <| E.mv rfl rfl <| E.asg rfl rfl <| E.nil <| X.next <| C.drawnT 10 (by kernel_rfl) (by kernel_rfl) fun wh6 hwh6 => ?_
      have hM := hM.ext hwh6
      refine S.mv rfl rfl <| ?_
      refine S.addN (a := k) (b := 1) rfl rfl (by omega) rfl ?_
      refine S.mv rfl rfl <| ?_
      refine S.idxN (i := k) rfl rfl Tryd.underlying141 (by kernel_rfl) (by omega) rfl ?_
      refine S.load rfl Tryd.underlying3 rfl (hM.arr 1 rfl (by omega)) rfl ?_
      rw [if_pos (Nat.le_refl k)]
      refine S.mv rfl rfl <| ?_
      refine S.idxN (i := k) rfl rfl Tryd.underlying141 (by kernel_rfl) (by omega) rfl ?_
      refine S.load rfl Tryd.underlying3 rfl (hM.arr 0 rfl (by omega)) rfl ?_
      refine S.add rfl rfl (by omega) rfl ?_
      refine S.idxN (i := (k + 1)) rfl rfl Tryd.underlying141 (by kernel_rfl) (by omega) rfl ?_
      refine S.nil ?_
      refine E.storeAr 1 _ hM rfl rfl rfl (by kernel_rfl) (by omega) ?_
      intro w7 hM
      try dsimp only [List.nil_append, List.cons_append, List.set_cons_zero, List.set_cons_succ, repl] at hM
      refine E.nil <| X.outN <| X.next <| C.region <| ?_
      refine E.add rfl rfl (by omega) rfl ?_

      refine E.mv rfl rfl <| E.nil <| X.again1 (k + 1) (Sub.cons rfl <| Sub.nil _) rfl ⟨hM.to (Sym.two rfl (Sym.Ar_congr fun j _ => Pf.nx_upd l k j)), by omega⟩ (by omega)
    ·
      obtain rfl : k = 31 := by omega
      refine C.exit <| X.exitT <| X.exitT <| X.outE <| X.next <| C.seq <| C.region <| ?_
      refine E.idxN (i := 31) rfl rfl Tryd.underlying141 (by kernel_rfl) (by omega) rfl ?_
      refine E.load rfl Tryd.underlying3 rfl (hM.arr 1 rfl (by omega)) rfl ?_
      rw [if_pos (Nat.le_refl 31), Pf.nx_last]
      refine E.makeM (by_ := 8) (enc := i64) 0 hM rfl Tryd.underlying29 (by kernel_rfl) rfl (by first | omega | (simp only [List.length_replicate, List.length_append, List.length_set, List.length_cons, List.length_nil, List.length_map, List.length_range, List.length_take, List.length_drop, List.length_zipWith] at *; omega)) (by first | omega | (simp only [List.length_replicate, List.length_append, List.length_set, List.length_cons, List.length_nil, List.length_map, List.length_range, List.length_take, List.length_drop, List.length_zipWith] at *; omega)) rfl ?_
      intro v41 w8 hM
      try dsimp only [List.nil_append, List.cons_append, List.set_cons_zero, List.set_cons_succ, repl] at hM
      refine E.asg rfl rfl <| E.nil <| X.next <| C.seq <| C.seq <| C.region <| ?_
      refine E.mv rfl rfl ?_
      skip
      refine E.lenv rfl (Rd.shape (hM.arg0 hr)) Tryd.underlying29 rfl ?_
      rw [nz_len]
      refine E.mv rfl rfl <| E.nil <| X.next <| C.block <| ?_

      refine C.loop1 [(4, _), (8, _), (42, _), (43, _)] rfl (fun (i : Nat) => [(44, i64 i)]) (fun (i : Nat) w' => M w (Nn) w' [Sym.Ar b4 141 32 (fun n => ((Pf.nx l n + Pf.cnt l i n : Nat) : Int)), Rg.sl i64 3 v41 (tab (Pf.od l).length (Pf.lay l i))] ∧ i ≤ l.length) (fun (i : Nat) => l.length - i) 0 ?_ ?_ ?_
      · exact Sub.cons rfl <| Sub.nil _
      · exact ⟨(hM.pick [1, 2] (by decide)).to (Sym.two (Sym.Ar_congr (fun k hk => by rw [Pf.cnt_zero, if_pos (by omega)]; rfl)) (by rw [Pf.lay_zero l])), Nat.zero_le _⟩
      rintro i w9 ⟨hM, hi⟩
      refine C.seq <| C.region <| E.bin rfl rfl rfl rfl <| E.nil <| X.next <| C.seq <| ?_
      refine C.cond' rfl (fun hC3 => ?_) (fun hC3 => ?_)
      ·
        have hi' : i < l.length := by omega
        have hbi := hb l[i] (List.getElem_mem hi')
        refine C.skip <| X.next <| ?_

        refine C.cut0 [(4, _), (8, _), (42, _), (43, _), (44, _)] rfl [] (fun w' => M w (Nn) w' [Sym.Ar b4 141 32 (fun n => ((Pf.nx l n + Pf.cnt l (i + 1) n : Nat) : Int)), Rg.sl i64 3 v41 (tab (Pf.od l).length (Pf.lay l (i + 1)))]) ?_ ?_
        ·
          refine C.block <| C.seq <| C.region <| E.mv rfl rfl <| ?_
          refine E.get (k := i) rfl rfl (hM.arg0 hr) rfl (by omega) Tryd.underlying29 (by kernel_rfl) Tryd.underlying3 rfl rfl rfl ?_
          rw [nz_get hi']
          refine E.asg rfl rfl <| E.asg rfl rfl <| E.nil <| X.next <| C.seq <| C.region <| E.mv rfl rfl <| E.bin rfl rfl rfl rfl <| E.nil <| X.next <| ?_
          refine C.cond' rfl (fun hC4 => ?_) (fun hC4 => ?_)
          ·
            obtain ⟨hp1, hp2⟩ := Pf.lay_put hi' (by omega) hbi
            refine C.seq <| C.region <| E.mv rfl rfl <| E.mv rfl rfl <| ?_
            refine E.idxN (i := l[i]) rfl rfl Tryd.underlying141 (by kernel_rfl) (by omega) rfl ?_
            refine E.load rfl Tryd.underlying3 rfl (hM.arr 0 rfl (by omega)) rfl ?_
            refine E.mv rfl rfl <| ?_
            refine E.idx1 (k := Pf.nx l l[i] + Pf.cnt l i l[i]) rfl rfl (hM.sl 1 rfl) rfl (by rw [tab_len]; exact hp1) Tryd.underlying29 (by kernel_rfl) rfl ?_
            refine E.storeL 1 (i : Int) hM rfl rfl rfl (by kernel_rfl) rfl rfl (by rw [tab_len]; exact hp1) ?_
            intro w10 hM
            try dsimp only [List.nil_append, List.cons_append, List.set_cons_zero, List.set_cons_succ, repl] at hM
            rw [hp2] at hM
            refine E.nil <| X.next <| C.region <| E.mv rfl rfl <| ?_
            refine E.idxN (i := l[i]) rfl rfl Tryd.underlying141 (by kernel_rfl) (by omega) rfl ?_
            refine E.load rfl Tryd.underlying3 rfl (hM.arr 0 rfl (by omega)) rfl ?_
            refine E.addN (b := 1) rfl rfl (by omega) rfl ?_
            refine E.idxN (i := l[i]) rfl rfl Tryd.underlying141 (by kernel_rfl) (by omega) rfl ?_
            refine E.storeAr 0 _ hM rfl rfl rfl (by kernel_rfl) (by omega) ?_
            intro w11 hM
            try dsimp only [List.nil_append, List.cons_append, List.set_cons_zero, List.set_cons_succ, repl] at hM

            refine E.nil <| X.outN <| X.join0  (Sub.nil _) rfl (hM.to (Sym.two (Sym.Ar_congr fun k _ => Pf.n2_upd hi' (by omega) k) rfl))
          ·

            refine C.skip <| X.outN <| X.join0  (Sub.nil _) rfl (hM.to (Sym.two (Sym.Ar_congr fun k _ => by rw [Pf.cnt_same hi' (by omega)]) (by rw [tab_congr fun a ha => Pf.lay_skip hi' (by omega) ha])))
        rintro  w12 hM
        refine C.region <| ?_
        refine E.add rfl rfl (by omega) rfl ?_

        refine E.mv rfl rfl <| E.nil <| X.again1 (i + 1) (Sub.cons rfl <| Sub.nil _) rfl ⟨hM, by omega⟩ (by omega)
      ·
        obtain rfl : i = l.length := by omega
        rw [Pf.lay_end] at hM
        refine C.exit <| X.exitT <| X.exitT <| X.outE <| X.next <| C.seq <| C.region <| E.mv rfl rfl <| E.asg rfl rfl <| E.nil <| X.next <| C.ret <| ret1 rfl rfl ?_
        exact hM.pick [1] (by decide)

end Go.Proofs.YtcmgbjmcklfkcaaDoor
