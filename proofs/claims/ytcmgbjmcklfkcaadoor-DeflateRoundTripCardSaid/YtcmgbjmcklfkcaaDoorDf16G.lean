/- deflate: decoders. -/
import Derived.Test.YtcmgbjmcklfkcaaDoorDfIG
import Derived.Test.YtcmgbjmcklfkcaaDoorG29
namespace Go.Proofs.YtcmgbjmcklfkcaaDoor
set_option linter.unusedSimpArgs false
set_option linter.unusedVariables false
open Go.RowKit Sym

/-! arrays of numbers with more cells behind them -/
theorem Sym.Ax_ex : ∃ f : Nat → TypeId → Nat → (Nat → Int) → List Value → Rg, ∀ b T N g t, f b T N g t = Rg.blk b T ((tab N g).map i64 ++ t) := ⟨_, fun _ _ _ _ _ => rfl⟩
noncomputable def Sym.Ax : Nat → TypeId → Nat → (Nat → Int) → List Value → Rg := Classical.choose Sym.Ax_ex
theorem Sym.Ax_eq (b : Nat) (T : TypeId) (N : Nat) (g : Nat → Int) (t : List Value) : Sym.Ax b T N g t = Rg.blk b T ((tab N g).map i64 ++ t) := Classical.choose_spec Sym.Ax_ex b T N g t
theorem Sym.Ax_congr {b : Nat} {T : TypeId} {N : Nat} {g h : Nat → Int} {t : List Value} (e : ∀ k, k < N → g k = h k) : Sym.Ax b T N g t = Sym.Ax b T N h t := by rw [Sym.Ax_eq, Sym.Ax_eq, tab_congr e]
theorem Sym.M.ax {w0 w : World} {S : Nat → Prop} {rs : List Rg} {b N k : Nat} {T : TypeId} {g : Nat → Int} {t : List Value} (h : M w0 S w rs) (i : Nat) (hi : rs[i]? = some (Sym.Ax b T N g t)) (hk : k < N) : w.cell? ⟨b, k, none⟩ = some (i64 (g k)) :=
  h.bcell i (by rw [hi, Sym.Ax_eq]) (by rw [List.getElem?_append_left (by rw [List.length_map, tab_len]; exact hk), List.getElem?_map, tab_get hk]; rfl)
theorem Sym.M.axT {w0 w : World} {S : Nat → Prop} {rs : List Rg} {b N : Nat} {T : TypeId} {g : Nat → Int} {t : List Value} {u : Value} (j : Nat) (h : M w0 S w rs) (i : Nat) (hi : rs[i]? = some (Sym.Ax b T N g t)) (hj : t[j]? = some u) : w.cell? ⟨b, N + j, none⟩ = some u :=
  h.bcell i (by rw [hi, Sym.Ax_eq]) (by rw [List.getElem?_append_right (by rw [List.length_map, tab_len]; omega), List.length_map, tab_len, Nat.add_sub_cancel_left]; exact hj)
theorem Sym.M.axA {w0 w : World} {S : Nat → Prop} {rs : List Rg} {b N : Nat} {T : TypeId} {g : Nat → Int} {t : List Value} (h : M w0 S w rs) (i : Nat) (hi : rs[i]? = some (Sym.Ax b T N g t)) : At w b 0 ((tab N g).map i64) := fun j u hu => by
  have hj : j < N := by have := (List.getElem?_eq_some_iff.1 hu).1; rw [List.length_map, tab_len] at this; exact this
  rw [List.getElem?_map, tab_get hj] at hu
  rw [Nat.zero_add, h.ax i hi hj]; exact hu
theorem Sym.E.storeAx {P : Program} {ops : Array Oper} {Q : Exit → Act → World → Prop} {s : St} {env : Env} {w0 w : World} {S : Nat → Prop} {rs : List Rg} {rest : List Oper} {ty : TypeId} {pos : String} {aft : Array Edge} {t T : TypeId} {x y : Operand} {b N k : Nat} {g : Nat → Int} {tl : List Value} (i : Nat) (z : Int) (hM : M w0 S w rs) (hi : rs[i]? = some (Sym.Ax b T N g tl)) (hx : ev env x = some (.pointer (some ⟨b, k, none⟩))) (hy : ev env y = some (i64 z)) (hs : (P.info? t).map (·.size) = some 1) (hk : k < N)
    (h : ∀ w', M w0 S w' (rs.set i (Sym.Ax b T N (Sym.upd g k z) tl)) → wpE P ops Q s rest env w') : wpE P ops Q s (⟨none, .store t x y, ty, pos, aft, none⟩ :: rest) env w :=
  E.storeM i hM (by rw [hi, Sym.Ax_eq]) hx hy hs rfl (old := i64 (g k)) (by rw [List.getElem?_append_left (by rw [List.length_map, tab_len]; exact hk), List.getElem?_map, tab_get hk]; rfl) fun w' hM' => h w' (by
    rw [List.set_append_left _ _ (by rw [List.length_map, tab_len]; exact hk), tab_upd hk, ← Sym.Ax_eq] at hM'; exact hM')
theorem Sym.E.storeAxT {P : Program} {ops : Array Oper} {Q : Exit → Act → World → Prop} {s : St} {env : Env} {w0 w : World} {S : Nat → Prop} {rs : List Rg} {rest : List Oper} {ty : TypeId} {pos : String} {aft : Array Edge} {t T : TypeId} {x y : Operand} {b N : Nat} {g : Nat → Int} {tl : List Value} {u old : Value} (i j : Nat) (hM : M w0 S w rs) (hi : rs[i]? = some (Sym.Ax b T N g tl)) (hx : ev env x = some (.pointer (some ⟨b, N + j, none⟩))) (hy : ev env y = some u) (hs : (P.info? t).map (·.size) = some 1) (h1 : u.oneCell' = true) (hj : tl[j]? = some old)
    (h : ∀ w', M w0 S w' (rs.set i (Sym.Ax b T N g (tl.set j u))) → wpE P ops Q s rest env w') : wpE P ops Q s (⟨none, .store t x y, ty, pos, aft, none⟩ :: rest) env w :=
  E.storeM i hM (by rw [hi, Sym.Ax_eq]) hx hy hs h1 (old := old) (by rw [List.getElem?_append_right (by rw [List.length_map, tab_len]; omega), List.length_map, tab_len, Nat.add_sub_cancel_left]; exact hj) fun w' hM' => h w' (by
    rw [List.set_append_right _ _ (by rw [List.length_map, tab_len]; omega), List.length_map, tab_len, Nat.add_sub_cancel_left, ← Sym.Ax_eq] at hM'; exact hM')
theorem three {a a' b b' c c' : Rg} (h1 : a = a') (h2 : b = b') (h3 : c = c') : [a, b, c] = [a', b', c'] := by rw [h1, h2, h3]
namespace Df
theorem mx_snoc (l : List Nat) (x : Nat) : mx (l ++ [x]) = max (mx l) x := by unfold mx; rw [List.foldl_append]; rfl
theorem cnt_count {l : List Nat} {n : Nat} (h0 : n ≠ 0) : ∀ i : Nat, i ≤ l.length → Pf.cnt l i n = (l.take i).count n
  | 0, _ => by rw [Pf.cnt_zero]; rfl
  | i + 1, hi => by
    have hi' : i < l.length := by omega
    rw [Pf.cnt_succ hi', cnt_count h0 i (by omega), ← List.take_append_getElem hi', List.count_append, List.count_singleton]
    congr 1
    by_cases e : n = l[i]
    · rw [if_pos ⟨h0, e⟩, if_pos (by simp [e])]
    · rw [if_neg (fun c => e c.2), if_neg (by simp; omega)]
theorem cn_zero (l : List Nat) : cn l 0 = 0 := rfl
theorem count_upd {l : List Nat} {i : Nat} (hi : i < l.length) (k : Nat) : Sym.upd (fun n => ((l.take i).count n : Int)) l[i] (((l.take i).count l[i] : Int) + 1) k = ((l.take (i + 1)).count k : Int) := by
  rw [← List.take_append_getElem hi, List.count_append, List.count_singleton]
  unfold Sym.upd
  by_cases e : k = l[i]
  · rw [if_pos e, e, if_pos (by simp)]; omega
  · rw [if_neg e, if_neg (by simp; omega)]; show ((l.take i).count k : Int) = _; omega
theorem count_fin (l : List Nat) (k : Nat) : Sym.upd (fun n => ((l.take l.length).count n : Int)) 0 0 k = (cn l k : Int) := by
  unfold Sym.upd
  by_cases e : k = 0
  · rw [if_pos e, e, cn_zero]; rfl
  · rw [if_neg e]; unfold cn; rw [cnt_count e _ (Nat.le_refl _)]
theorem nx16 {l : List Nat} (hb : ∀ n ∈ l, n ≤ 15) : Pf.nx l 16 = (Pf.od l).length := by
  have key : ∀ k, 15 ≤ k → Pf.ord l k = Pf.ord l 15 := by
    intro k
    induction k with
    | zero => intro h; omega
    | succ k ih =>
      intro h
      by_cases e : k + 1 = 15
      · rw [e]
      · rw [Pf.ord, ih (by omega)]
        have : Pf.sy l (k + 1) = [] := by
          apply List.eq_nil_iff_forall_not_mem.2
          intro i hi
          obtain ⟨h1, h2⟩ := Pf.sy_mem.1 hi
          have := hb l[i] (List.getElem_mem h1)
          rw [Pf.getD_eq h1] at h2; omega
        rw [this, List.append_nil]
  rw [Pf.od_eq, key 30 (by decide)]; rfl
end Df
theorem Max_ret (p : Value) (l : List Nat) (w : World) (hr : RdL i64 w p (nz l)) (h0 : 0 < l.length) (hlen : l.length ≤ 4096) :
    Ret Tryd.prog 88 #[p] w fun v w' => v = i64 (Df.mx l : Int) ∧ Ext w w' := by
  have hM := M.start w
  refine enter Tryd.func88 rfl (by kernel_rfl) Tryd.ntmps88 rfl ?_
  refine C.seq <| C.region <| E.asg rfl rfl <| E.nil <| X.next <| ?_

  refine C.cut0 [(0, _)] rfl [] (fun w' => M w (Nn) w' []) ?_ ?_
  ·
    refine C.seq <| C.region <| E.mv rfl rfl <| ?_
    refine E.lenv rfl (Rd.shape (hM.arg0 hr)) Tryd.underlying29 rfl ?_
    rw [nz_len]
    have hnl := nz_len l
    refine E.bin rfl rfl rfl rfl <| E.nil <| X.next <| ?_
    refine C.cond' rfl (fun hC0 => ?_) (fun hC0 => ?_)
    ·
      omega
    ·

      refine C.skip <| X.join0  (Sub.nil _) rfl hM
  rintro  w0 hM
  refine C.seq <| C.region <| E.mv rfl rfl <| ?_
  refine E.get (k := 0) rfl rfl (hM.arg0 hr) rfl (by rw [nz_len]; omega) Tryd.underlying29 (by kernel_rfl) Tryd.underlying3 rfl rfl rfl ?_
  rw [nz_get h0]
  refine E.asg rfl rfl <| E.nil <| X.next <| C.seq <| C.seq <| C.region <| E.asg rfl rfl <| E.nil <| X.next <| C.block <| ?_

  refine C.loop1 [(0, _)] rfl (fun (i : Nat) => [(3, i64 (Df.mx (l.take i) : Int)), (4, i64 i)]) (fun (i : Nat) w' => M w (Nn) w' [] ∧ 1 ≤ i ∧ i ≤ l.length) (fun (i : Nat) => l.length - i) 1 ?_ ?_ ?_
  · exact Sub.cons (look_val rfl (by rw [show l.take 1 = [] ++ [l[0]] by rw [← List.take_append_getElem h0]; rfl, Df.mx_snoc]; show (l[0] : Int) = ((max 0 l[0] : Nat) : Int); omega)) <| Sub.cons rfl <| Sub.nil _
  · exact ⟨hM, by omega, by omega⟩
  rintro i w1 ⟨hM, hi1, hi⟩
  refine C.seq <| C.seq <| C.region <| E.mv rfl rfl <| E.mv rfl rfl <| ?_
  refine E.lenv rfl (Rd.shape (hM.arg0 hr)) Tryd.underlying29 rfl ?_
  rw [nz_len]
  refine E.bin rfl rfl rfl rfl <| E.nil <| X.next <| ?_
  refine C.cond' rfl (fun hC1 => ?_) (fun hC1 => ?_)
  ·
    have hi' : i < l.length := by omega
    refine C.skip <| X.next <| C.seq <| C.block <| C.region <| E.mv rfl rfl <| E.mv rfl rfl <| E.mv rfl rfl <| ?_
    refine E.get (k := i) rfl rfl (hM.arg0 hr) rfl (by rw [nz_len]; omega) Tryd.underlying29 (by kernel_rfl) Tryd.underlying3 rfl rfl rfl ?_
    rw [nz_get hi']
    refine E.max2 rfl rfl rfl <| E.asg rfl rfl <| E.nil <| X.outN <| X.next <| C.region <| E.mv rfl rfl <| ?_
    refine E.addN (a := i) (b := 1) rfl rfl (by omega) rfl ?_

    refine E.asg rfl rfl <| E.nil <| X.again1 (i + 1) (Sub.cons (look_val rfl (by rw [← List.take_append_getElem hi', Df.mx_snoc]; omega)) <| Sub.cons rfl <| Sub.nil _) rfl ⟨hM, by omega, by omega⟩ (by omega)
  ·
    obtain rfl : i = l.length := by omega
    rw [List.take_length]
    refine C.exit <| X.exitT <| X.exitT <| X.outE <| X.next <| C.seq <| C.region <| E.mv rfl rfl <| E.asg rfl rfl <| E.nil <| X.next <| C.ret <| ret1 rfl rfl ?_
    exact ⟨rfl, hM.toExt⟩

set_option maxHeartbeats 4000000 in
set_option maxRecDepth 4000 in
theorem newDecoder_ret (p : Value) (l : List Nat) (w : World) (hr : RdL i64 w p (nz l)) (h0 : 0 < l.length) (hlen : l.length ≤ 4096) (hb : ∀ n ∈ l, n ≤ 15) :
    Ret Tryd.prog 65 #[p] w fun v w' => ∃ b vs, v = pv b ∧ M w Nn w' [Sym.Ax b 132 16 (fun n => (Df.cn l n : Int)) [vs, i64 (Df.mx l : Int)], Rg.sl i64 3 vs (nz (Pf.od l))] := by
  have hM := M.start w
  refine enter Tryd.func65 rfl (by kernel_rfl) Tryd.ntmps65 rfl ?_
  refine C.seq <| C.region <| E.asg rfl rfl <| E.nil <| X.next <| C.seq <| C.region <| E.mv rfl rfl <| ?_
  refine E.call rfl rfl (Max_ret p l _ (hM.arg0 hr) h0 hlen) ?_
  rintro _ w1 ⟨rfl, x1⟩
  have hM := hM.ext x1
  try dsimp only [List.nil_append, List.cons_append, List.set_cons_zero, List.set_cons_succ, repl] at hM
  refine E.buildC (cs := [_, _, _, _, _, _, _, _, _, _, _, _, _, _, _, _, _, _]) [.int .i64 0, .int .i64 0, .int .i64 0, .int .i64 0, .int .i64 0, .int .i64 0, .int .i64 0, .int .i64 0, .int .i64 0, .int .i64 0, .int .i64 0, .int .i64 0, .int .i64 0, .int .i64 0, .int .i64 0, .int .i64 0, .slice none 0 0, .int .i64 0] [17] rfl rfl (by kernel_rfl) rfl ?_
  refine E.boxM hM rfl rfl rfl ?_
  intro b14 w1 hM
  try dsimp only [List.nil_append, List.cons_append, List.set_cons_zero, List.set_cons_succ, repl] at hM
  have hnl := nz_len l
  have hod := Pf.od_le l
  have hmx : Df.mx l ≤ 15 := Df.mx_bd l 0 (by decide) hb
  have hM : M w Nn _ [Sym.Ax b14 132 16 (fun n => ((l.take 0).count n : Int)) [.slice none 0 0, i64 (Df.mx l : Int)]] := hM.to (show _ = _ from congrArg (fun r => [r]) ((congrArg (Rg.blk b14 132) (show _ = (tab 16 (fun n => ((l.take 0).count n : Int))).map i64 ++ [.slice none 0 0, i64 (Df.mx l : Int)] from rfl)).trans (Sym.Ax_eq _ _ _ _ _).symm))
  refine E.asg rfl rfl <| E.nil <| X.next <| C.seq <| C.seq <| C.region <| E.mv rfl rfl <| ?_
  refine E.lenv rfl (Rd.shape (hM.arg0 hr)) Tryd.underlying29 rfl ?_
  rw [nz_len]
  refine E.mv rfl rfl <| E.nil <| X.next <| C.block <| ?_

  refine C.loop1 [(0, _), (3, _), (15, _), (16, _)] rfl (fun (i : Nat) => [(17, i64 i)]) (fun (i : Nat) w' => M w (Nn) w' [Sym.Ax b14 132 16 (fun n => ((l.take i).count n : Int)) [.slice none 0 0, i64 (Df.mx l : Int)]] ∧ i ≤ l.length) (fun (i : Nat) => l.length - i) 0 ?_ ?_ ?_
  · exact Sub.cons rfl <| Sub.nil _
  · exact ⟨hM, Nat.zero_le _⟩
  rintro i w2 ⟨hM, hi⟩
  refine C.seq <| C.region <| E.bin rfl rfl rfl rfl <| E.nil <| X.next <| C.seq <| ?_
  refine C.cond' rfl (fun hC0 => ?_) (fun hC0 => ?_)
  ·
    have hi' : i < l.length := by omega
    have hbi := hb l[i] (List.getElem_mem hi')
    have hcl : (l.take i).count l[i] ≤ 4096 := by have := List.count_le_length (a := l[i]) (l := l.take i); rw [List.length_take] at this; omega
    refine C.skip <| X.next <| C.seq <| C.block <| C.seq <| C.region <| ?_
    refine E.get (k := i) rfl rfl (hM.arg0 hr) rfl (by omega) Tryd.underlying29 (by kernel_rfl) Tryd.underlying3 rfl rfl rfl ?_
    rw [nz_get hi']
    refine E.asg rfl rfl <| E.nil <| X.next <| C.drawnT 10 (by kernel_rfl) (by kernel_rfl) fun wh3 hwh3 => ?_
    have hM := hM.ext hwh3
    refine S.mv rfl rfl <| S.mv rfl rfl <| S.nilc rfl rfl <| ?_
    refine S.fld (o := 0) (sz := 15) rfl Tryd.underlying132 rfl rfl (by kernel_rfl) rfl ?_
    refine S.idxN (i := l[i]) rfl rfl Tryd.underlying130 (by kernel_rfl) (by omega) rfl ?_
    refine S.load rfl Tryd.underlying3 rfl (hM.ax 0 rfl (by omega)) rfl ?_
    refine S.add rfl rfl (by omega) rfl ?_
    refine S.nilc rfl rfl <| ?_
    refine S.fld (o := 0) (sz := 15) rfl Tryd.underlying132 rfl rfl (by kernel_rfl) rfl ?_
    refine S.idxN (i := l[i]) rfl rfl Tryd.underlying130 (by kernel_rfl) (by omega) rfl ?_
    refine S.nil ?_
    refine E.storeAx 0 (((l.take i).count l[i] : Int) + 1) hM rfl rfl rfl (by kernel_rfl) (by omega) ?_
    intro w4 hM
    try dsimp only [List.nil_append, List.cons_append, List.set_cons_zero, List.set_cons_succ, repl] at hM
    refine E.nil <| X.outN <| X.next <| C.region <| ?_
    refine E.addN (a := i) (b := 1) rfl rfl (by omega) rfl ?_

    refine E.mv rfl rfl <| E.nil <| X.again1 (i + 1) (Sub.cons rfl <| Sub.nil _) rfl ⟨hM.to (congrArg (fun r => [r]) (Sym.Ax_congr fun k _ => Df.count_upd hi' k)), by omega⟩ (by omega)
  ·
    obtain rfl : i = l.length := by omega
    refine C.exit <| X.exitT <| X.exitT <| X.outE <| X.next <| C.seq <| C.region <| E.mv rfl rfl <| E.nilc rfl rfl <| ?_
    refine E.fld (o := 0) (sz := 15) rfl Tryd.underlying132 rfl rfl (by kernel_rfl) rfl ?_
    refine E.idxN (i := 0) rfl rfl Tryd.underlying130 (by kernel_rfl) (by omega) rfl ?_
    refine E.storeAx 0 0 hM rfl rfl rfl (by kernel_rfl) (by omega) ?_
    intro w5 hM
    try dsimp only [List.nil_append, List.cons_append, List.set_cons_zero, List.set_cons_succ, repl] at hM
    have hM := hM.to (congrArg (fun r => [r]) (Sym.Ax_congr (h := fun n => (Df.cn l n : Int)) fun k _ => Df.count_fin l k))
    refine E.nil <| X.next <| C.seq <| C.region <| ?_
    refine E.allocM (z := .agg #[.int .i64 0, .int .i64 0, .int .i64 0, .int .i64 0, .int .i64 0, .int .i64 0, .int .i64 0, .int .i64 0, .int .i64 0, .int .i64 0, .int .i64 0, .int .i64 0, .int .i64 0, .int .i64 0, .int .i64 0, .int .i64 0, .int .i64 0]) (cs := [.int .i64 0, .int .i64 0, .int .i64 0, .int .i64 0, .int .i64 0, .int .i64 0, .int .i64 0, .int .i64 0, .int .i64 0, .int .i64 0, .int .i64 0, .int .i64 0, .int .i64 0, .int .i64 0, .int .i64 0, .int .i64 0, .int .i64 0]) hM (by kernel_rfl) rfl rfl ?_
    intro b6 w6 hM
    try dsimp only [List.nil_append, List.cons_append, List.set_cons_zero, List.set_cons_succ, repl] at hM
    have hM : M w Nn _ [Sym.Ax b14 132 16 (fun n => (Df.cn l n : Int)) [.slice none 0 0, i64 (Df.mx l : Int)], Sym.Ar b6 133 17 (fun n => if n ≤ 0 then (Pf.nx l n : Int) else 0)] := hM.to (Sym.two rfl ((congrArg (Rg.blk b6 133) (show _ = (tab 17 (fun _ => (0 : Int))).map i64 from rfl)).trans ((Sym.Ar_eq _ _ _ _).symm.trans (Sym.Ar_congr fun k _ => Pf.nx_init l k))))
    refine E.nil <| X.next <| C.seq <| C.seq <| C.region <| E.mv rfl rfl <| E.nilc rfl rfl <| ?_
    refine E.fld (o := 0) (sz := 15) rfl Tryd.underlying132 rfl rfl (by kernel_rfl) rfl ?_
    refine E.loadA (cs := (tab 16 (fun n => (Df.cn l n : Int))).map i64) rfl Tryd.underlying130 rfl (by kernel_rfl) (hM.axA 0 rfl) rfl ?_
    refine E.mv rfl rfl <| E.nil <| X.next <| C.block <| ?_

    refine C.loop1 [(0, _), (3, _), (6, _), (39, _)] rfl (fun (k : Nat) => [(40, i64 k)]) (fun (k : Nat) w' => M w (Nn) w' [Sym.Ax b14 132 16 (fun n => (Df.cn l n : Int)) [.slice none 0 0, i64 (Df.mx l : Int)], Sym.Ar b6 133 17 (fun n => if n ≤ k then (Pf.nx l n : Int) else 0)] ∧ k ≤ 16) (fun (k : Nat) => 16 - k) 0 ?_ ?_ ?_
    · exact Sub.cons rfl <| Sub.nil _
    · exact ⟨hM, by omega⟩
    rintro k w7 ⟨hM, hk⟩
    refine C.seq <| C.region <| E.bin rfl rfl rfl rfl <| E.nil <| X.next <| C.seq <| ?_
    refine C.cond' rfl (fun hC1 => ?_) (fun hC1 => ?_)
    ·
      have hk' : k < 16 := by omega
      have hn1 := Pf.nx_le (l := l) (show k ≤ 31 by omega)
      have hn2 := Pf.cnt_le (n := k) (Nat.le_refl l.length)
      have hn3 : Df.cn l k = Pf.cnt l l.length k := rfl
      refine C.skip <| X.next <| C.seq <| C.block <| C.seq <| C.region <| E.mv rfl rfl <| ?_
      refine E.idxV k rfl rfl rfl Tryd.underlying130 Tryd.underlying3 (by kernel_rfl) hk' (show _ = some (i64 (Df.cn l k : Int)) by rw [List.getElem?_map, tab_get hk']; rfl) rfl ?_
      refine E.asg rfl rfl <| E.asg rfl rfl <| E.nil <| X.next <| C.region <| E.mv rfl rfl <| ?_
      refine E.addN (a := k) (b := 1) rfl rfl (by omega) rfl ?_
      refine E.mv rfl rfl <| ?_
      refine E.idxN (i := k) rfl rfl Tryd.underlying133 (by kernel_rfl) (by omega) rfl ?_
      refine E.load rfl Tryd.underlying3 rfl (hM.arr 1 rfl (by omega)) rfl ?_
      rw [if_pos (Nat.le_refl k)]
      refine E.mv rfl rfl <| ?_
      refine E.add rfl rfl (by omega) rfl ?_
      refine E.idxN (i := (k + 1)) rfl rfl Tryd.underlying133 (by kernel_rfl) (by omega) rfl ?_
      refine E.storeAr 1 ((Pf.nx l k : Int) + (Df.cn l k : Int)) hM rfl rfl rfl (by kernel_rfl) (by omega) ?_
      intro w8 hM
      try dsimp only [List.nil_append, List.cons_append, List.set_cons_zero, List.set_cons_succ, repl] at hM
      refine E.nil <| X.outN <| X.next <| C.region <| ?_
      refine E.addN (a := k) (b := 1) rfl rfl (by omega) rfl ?_

      refine E.mv rfl rfl <| E.nil <| X.again1 (k + 1) (Sub.cons rfl <| Sub.nil _) rfl ⟨hM.to (Sym.two rfl (Sym.Ar_congr fun j _ => Pf.nx_upd l k j)), by omega⟩ (by omega)
    ·
      obtain rfl : k = 16 := by omega
      refine C.exit <| X.exitT <| X.exitT <| X.outE <| X.next <| C.seq <| C.region <| E.mv rfl rfl <| ?_
      refine E.idxN (i := 16) rfl rfl Tryd.underlying133 (by kernel_rfl) (by omega) rfl ?_
      refine E.load rfl Tryd.underlying3 rfl (hM.arr 1 rfl (by omega)) rfl ?_
      rw [if_pos (Nat.le_refl 16), Df.nx16 hb]
      refine E.makeM (by_ := 8) (enc := i64) 0 hM rfl Tryd.underlying29 (by kernel_rfl) rfl (by first | omega | (simp only [List.length_replicate, List.length_append, List.length_set, List.length_cons, List.length_nil, List.length_map, List.length_range, List.length_take, List.length_drop, List.length_zipWith] at *; omega)) (by first | omega | (simp only [List.length_replicate, List.length_append, List.length_set, List.length_cons, List.length_nil, List.length_map, List.length_range, List.length_take, List.length_drop, List.length_zipWith] at *; omega)) rfl ?_
      intro v56 w9 hM
      try dsimp only [List.nil_append, List.cons_append, List.set_cons_zero, List.set_cons_succ, repl] at hM
      refine E.nilc rfl rfl <| ?_
      refine E.fld (o := 16) (sz := 0) rfl Tryd.underlying132 rfl rfl (by kernel_rfl) rfl ?_
      refine E.storeAxT 0 0 hM rfl rfl rfl (by kernel_rfl) (hM.sl 2 rfl).one rfl ?_
      intro w10 hM
      try dsimp only [List.nil_append, List.cons_append, List.set_cons_zero, List.set_cons_succ, repl] at hM
      refine E.nil <| X.next <| C.seq <| C.seq <| C.region <| E.mv rfl rfl <| ?_
      refine E.lenv rfl (Rd.shape (hM.arg0 hr)) Tryd.underlying29 rfl ?_
      rw [nz_len]
      refine E.mv rfl rfl <| E.nil <| X.next <| C.block <| ?_

      refine C.loop1 [(3, _), (6, _), (59, _), (60, _)] rfl (fun (i : Nat) => [(61, i64 i)]) (fun (i : Nat) w' => M w (Nn) w' [Sym.Ax b14 132 16 (fun n => (Df.cn l n : Int)) [v56, i64 (Df.mx l : Int)], Sym.Ar b6 133 17 (fun n => ((Pf.nx l n + Pf.cnt l i n : Nat) : Int)), Rg.sl i64 3 v56 (tab (Pf.od l).length (Pf.lay l i))] ∧ i ≤ l.length) (fun (i : Nat) => l.length - i) 0 ?_ ?_ ?_
      · exact Sub.cons rfl <| Sub.nil _
      · exact ⟨hM.to (three rfl (Sym.Ar_congr (fun k hk => by rw [Pf.cnt_zero, if_pos (by omega)]; rfl)) (by rw [Pf.lay_zero l])), Nat.zero_le _⟩
      rintro i w11 ⟨hM, hi⟩
      refine C.seq <| C.region <| E.bin rfl rfl rfl rfl <| E.nil <| X.next <| C.seq <| ?_
      refine C.cond' rfl (fun hC2 => ?_) (fun hC2 => ?_)
      ·
        have hi' : i < l.length := by omega
        have hbi := hb l[i] (List.getElem_mem hi')
        refine C.skip <| X.next <| ?_

        refine C.cut0 [(3, _), (6, _), (59, _), (60, _), (61, _)] rfl [] (fun w' => M w (Nn) w' [Sym.Ax b14 132 16 (fun n => (Df.cn l n : Int)) [v56, i64 (Df.mx l : Int)], Sym.Ar b6 133 17 (fun n => ((Pf.nx l n + Pf.cnt l (i + 1) n : Nat) : Int)), Rg.sl i64 3 v56 (tab (Pf.od l).length (Pf.lay l (i + 1)))]) ?_ ?_
        ·
          refine C.block <| C.seq <| C.region <| E.mv rfl rfl <| ?_
          refine E.get (k := i) rfl rfl (hM.arg0 hr) rfl (by omega) Tryd.underlying29 (by kernel_rfl) Tryd.underlying3 rfl rfl rfl ?_
          rw [nz_get hi']
          refine E.asg rfl rfl <| E.asg rfl rfl <| E.nil <| X.next <| C.seq <| C.region <| E.mv rfl rfl <| E.bin rfl rfl rfl rfl <| E.nil <| X.next <| ?_
          refine C.cond' rfl (fun hC3 => ?_) (fun hC3 => ?_)
          ·
            obtain ⟨hp1, hp2⟩ := Pf.lay_put hi' (by omega) (by omega)
            refine C.seq <| C.drawnT 9 (by kernel_rfl) (by kernel_rfl) fun wh12 hwh12 => ?_
            have hM := hM.ext hwh12
            refine S.mv rfl rfl <| S.nilc rfl rfl <| ?_
            refine S.fld (o := 16) (sz := 0) rfl Tryd.underlying132 rfl rfl (by kernel_rfl) rfl ?_
            refine S.load rfl Tryd.underlying29 rfl (hM.axT 0 0 rfl rfl) rfl ?_
            refine S.mv rfl rfl <| ?_
            refine S.idxN (i := l[i]) rfl rfl Tryd.underlying133 (by kernel_rfl) (by omega) rfl ?_
            refine S.load rfl Tryd.underlying3 rfl (hM.arr 1 rfl (by omega)) rfl ?_
            refine S.mv rfl rfl <| ?_
            refine S.idx1 (k := Pf.nx l l[i] + Pf.cnt l i l[i]) rfl rfl (hM.sl 2 rfl) rfl (by rw [tab_len]; exact hp1) Tryd.underlying29 (by kernel_rfl) rfl ?_
            refine S.nil ?_
            refine E.storeL 2 (i : Int) hM rfl rfl rfl (by kernel_rfl) rfl rfl (by rw [tab_len]; exact hp1) ?_
            intro w13 hM
            try dsimp only [List.nil_append, List.cons_append, List.set_cons_zero, List.set_cons_succ, repl] at hM
            rw [hp2] at hM
            refine E.nil <| X.next <| C.region <| E.mv rfl rfl <| ?_
            refine E.idxN (i := l[i]) rfl rfl Tryd.underlying133 (by kernel_rfl) (by omega) rfl ?_
            refine E.load rfl Tryd.underlying3 rfl (hM.arr 1 rfl (by omega)) rfl ?_
            refine E.addN (b := 1) rfl rfl (by omega) rfl ?_
            refine E.idxN (i := l[i]) rfl rfl Tryd.underlying133 (by kernel_rfl) (by omega) rfl ?_
            refine E.storeAr 1 ((Pf.nx l l[i] + Pf.cnt l i l[i] + 1 : Nat) : Int) hM rfl rfl rfl (by kernel_rfl) (by omega) ?_
            intro w14 hM
            try dsimp only [List.nil_append, List.cons_append, List.set_cons_zero, List.set_cons_succ, repl] at hM

            refine E.nil <| X.outN <| X.join0  (Sub.nil _) rfl (hM.to (three rfl (Sym.Ar_congr fun k _ => Pf.n2_upd hi' (by omega) k) rfl))
          ·

            refine C.skip <| X.outN <| X.join0  (Sub.nil _) rfl (hM.to (three rfl (Sym.Ar_congr fun k _ => by rw [Pf.cnt_same hi' (by omega)]) (by rw [tab_congr fun a ha => Pf.lay_skip hi' (by omega) ha])))
        rintro  w15 hM
        refine C.region <| ?_
        refine E.addN (a := i) (b := 1) rfl rfl (by omega) rfl ?_

        refine E.mv rfl rfl <| E.nil <| X.again1 (i + 1) (Sub.cons rfl <| Sub.nil _) rfl ⟨hM, by omega⟩ (by omega)
      ·
        obtain rfl : i = l.length := by omega
        rw [Pf.lay_end] at hM
        refine C.exit <| X.exitT <| X.exitT <| X.outE <| X.next <| C.seq <| C.region <| E.mv rfl rfl <| E.asg rfl rfl <| E.nil <| X.next <| C.ret <| ret1 rfl rfl ?_
        exact ⟨_, _, rfl, hM.pick [0, 2] (by decide)⟩

end Go.Proofs.YtcmgbjmcklfkcaaDoor
