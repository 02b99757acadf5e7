/- Texts of the claim, laid together: Df16, Df17, DfJ. -/
import Derived.Test.YtajklleiifhipaaGreatDoorY0
import Derived.Test.YtajklleiifhipaaGreatDoorY5
import Derived.Test.YtajklleiifhipaaGreatDoorY11
import Derived.Test.YtajklleiifhipaaGreatDoorY14
set_option linter.unusedSimpArgs false
set_option linter.unusedVariables false
namespace Go.Proofs.YtajklleiifhipaaGreatDoor
open Go.RowKit Sym
theorem Sym.Ax_ex : ∃ f : Nat → TypeId → Nat → (Nat → Int) → List Value → Rg, ∀ b T N g t, f b T N g t = Rg.blk b T ((tab N g).map i64 ++ t) := ⟨_, fun _ _ _ _ _ => rfl⟩
noncomputable def Sym.Ax : Nat → TypeId → Nat → (Nat → Int) → List Value → Rg := Classical.choose Sym.Ax_ex
theorem Sym.Ax_eq (b : Nat) (T : TypeId) (N : Nat) (g : Nat → Int) (t : List Value) : Sym.Ax b T N g t = Rg.blk b T ((tab N g).map i64 ++ t) := Classical.choose_spec Sym.Ax_ex b T N g t
theorem Sym.Ax_congr {b : Nat} {T : TypeId} {N : Nat} {g h : Nat → Int} {t : List Value} (e : ∀ k, k < N → g k = h k) : Sym.Ax b T N g t = Sym.Ax b T N h t := by rw [Sym.Ax_eq, Sym.Ax_eq, tab_congr e]
theorem Sym.M.ax {w0 w : World} {S : Nat → Prop} {rs : List Rg} {b N k : Nat} {T : TypeId} {g : Nat → Int} {t : List Value} (h : M w0 S w rs) (i : Nat) (hi : rs[i]? = some (Sym.Ax b T N g t)) (hk : k < N) : w.cell? ⟨b, k, none⟩ = some (i64 (g k)) :=
 h.bcell i (by rw [hi, Sym.Ax_eq]) (by rw [List.getElem?_append_left (by rw [List.length_map, tab_len]; exact hk), List.getElem?_map, tab_get hk]; rfl)
theorem Sym.M.axT {w0 w : World} {S : Nat → Prop} {rs : List Rg} {b N : Nat} {T : TypeId} {g : Nat → Int} {t : List Value} {u : Value} (j : Nat) (h : M w0 S w rs) (i : Nat) (hi : rs[i]? = some (Sym.Ax b T N g t)) (hj : t[j]? = some u) : w.cell? ⟨b, N + j, none⟩ = some u :=
 h.bcell i (by rw [hi, Sym.Ax_eq]) (by rw [List.getElem?_append_right (by rw [List.length_map, tab_len]; omega), List.length_map, tab_len, Nat.add_sub_cancel_left]; exact hj)
theorem Sym.M.axA {w0 w : World} {S : Nat → Prop} {rs : List Rg} {b N : Nat} {T : TypeId} {g : Nat → Int} {t : List Value} (h : M w0 S w rs) (i : Nat) (hi : rs[i]? = some (Sym.Ax b T N g t)) : At w b 0 ((tab N g).map i64) := fun j u hu => by
 have hj : j < N := by have := (List.getElem?_eq_some_iff.1 hu).1; rw [List.length_map, tab_len] at this; exact this
 rw [List.getElem?_map, tab_get hj] at hu
 rw [Nat.zero_add, h.ax i hi hj]; exact hu
theorem Sym.E.storeAx {P : Program} {ops : Array Oper} {Q : Exit → Act → World → Prop} {s : St} {env : Env} {w0 w : World} {S : Nat → Prop} {rs : List Rg} {rest : List Oper} {ty : TypeId} {pos : String} {aft : Array Edge} {t T : TypeId} {x y : Operand} {b N k : Nat} {g : Nat → Int} {tl : List Value} (i : Nat) (z : Int) (hM : M w0 S w rs) (hi : rs[i]? = some (Sym.Ax b T N g tl)) (hx : ev env x = some (.pointer (some ⟨b, k, none⟩))) (hy : ev env y = some (i64 z)) (hs : (P.info? t).map (·.size) = some 1) (hk : k < N)
  (h : ∀ w', M w0 S w' (rs.set i (Sym.Ax b T N (Sym.upd g k z) tl)) → wpE P ops Q s rest env w') : wpE P ops Q s (⟨none, .store t x y, ty, pos, aft, none⟩ :: rest) env w :=
 E.storeM i hM (by rw [hi, Sym.Ax_eq]) hx hy hs rfl (old := i64 (g k)) (by rw [List.getElem?_append_left (by rw [List.length_map, tab_len]; exact hk), List.getElem?_map, tab_get hk]; rfl) fun w' hM' => h w' (by
  rw [List.set_append_left _ _ (by rw [List.length_map, tab_len]; exact hk), tab_upd hk, ← Sym.Ax_eq] at hM'; exact hM')
theorem Sym.E.storeAxT {P : Program} {ops : Array Oper} {Q : Exit → Act → World → Prop} {s : St} {env : Env} {w0 w : World} {S : Nat → Prop} {rs : List Rg} {rest : List Oper} {ty : TypeId} {pos : String} {aft : Array Edge} {t T : TypeId} {x y : Operand} {b N : Nat} {g : Nat → Int} {tl : List Value} {u old : Value} (i j : Nat) (hM : M w0 S w rs) (hi : rs[i]? = some (Sym.Ax b T N g tl)) (hx : ev env x = some (.pointer (some ⟨b, N + j, none⟩))) (hy : ev env y = some u) (hs : (P.info? t).map (·.size) = some 1) (h1 : u.oneCell' = true) (hj : tl[j]? = some old)
  (h : ∀ w', M w0 S w' (rs.set i (Sym.Ax b T N g (tl.set j u))) → wpE P ops Q s rest env w') : wpE P ops Q s (⟨none, .store t x y, ty, pos, aft, none⟩ :: rest) env w :=
 E.storeM i hM (by rw [hi, Sym.Ax_eq]) hx hy hs h1 (old := old) (by rw [List.getElem?_append_right (by rw [List.length_map, tab_len]; omega), List.length_map, tab_len, Nat.add_sub_cancel_left]; exact hj) fun w' hM' => h w' (by
  rw [List.set_append_right _ _ (by rw [List.length_map, tab_len]; omega), List.length_map, tab_len, Nat.add_sub_cancel_left, ← Sym.Ax_eq] at hM'; exact hM')
theorem three {a a' b b' c c' : Rg} (h1 : a = a') (h2 : b = b') (h3 : c = c') : [a, b, c] = [a', b', c'] := by rw [h1, h2, h3]
namespace Df
theorem mx_snoc (l : List Nat) (x : Nat) : mx (l ++ [x]) = max (mx l) x := by unfold mx; rw [List.foldl_append]; rfl
theorem cnt_count {l : List Nat} {n : Nat} (h0 : n ≠ 0) : ∀ i : Nat, i ≤ l.length → Pf.cnt l i n = (l.take i).count n
 | 0, _ => by rw [Pf.cnt_zero]; rfl
 | i + 1, hi => by
  have hi' : i < l.length := by omega
  rw [Pf.cnt_succ hi', cnt_count h0 i (by omega), ← List.take_append_getElem hi', List.count_append, List.count_singleton]
  congr 1
  by_cases e : n = l[i]
  · rw [if_pos ⟨h0, e⟩, if_pos (by simp [e])]
  rw [if_neg (fun c => e c.2), if_neg (by simp; omega)]
theorem cn_zero (l : List Nat) : cn l 0 = 0 := rfl
theorem count_upd {l : List Nat} {i : Nat} (hi : i < l.length) (k : Nat) : Sym.upd (fun n => ((l.take i).count n : Int)) l[i] (((l.take i).count l[i] : Int) + 1) k = ((l.take (i + 1)).count k : Int) := by
 rw [← List.take_append_getElem hi, List.count_append, List.count_singleton]
 unfold Sym.upd
 by_cases e : k = l[i]
 · rw [if_pos e, e, if_pos (by simp)]; omega
 rw [if_neg e, if_neg (by simp; omega)]; show ((l.take i).count k : Int) = _; omega
theorem count_fin (l : List Nat) (k : Nat) : Sym.upd (fun n => ((l.take l.length).count n : Int)) 0 0 k = (cn l k : Int) := by
 unfold Sym.upd
 by_cases e : k = 0
 · rw [if_pos e, e, cn_zero]; rfl
 rw [if_neg e]; unfold cn; rw [cnt_count e _ (Nat.le_refl _)]
theorem nx16 {l : List Nat} (hb : ∀ n ∈ l, n ≤ 15) : Pf.nx l 16 = (Pf.od l).length := by
 have key : ∀ k, 15 ≤ k → Pf.ord l k = Pf.ord l 15 := by
  intro k
  induction k with
  | zero => intro h; omega
  | succ k ih =>
   intro h
   by_cases e : k + 1 = 15
   · rw [e]
   rw [Pf.ord, ih (by omega)]
   have : Pf.sy l (k + 1) = [] := by
    apply List.eq_nil_iff_forall_not_mem.2
    intro i hi
    obtain ⟨h1, h2⟩ := Pf.sy_mem.1 hi
    have := hb l[i] (List.getElem_mem h1)
    rw [Pf.getD_eq h1] at h2; omega
   rw [this, List.append_nil]
 rw [Pf.od_eq, key 30 (by decide)]; rfl
end Df
theorem Max_ret (p : Value) (l : List Nat) (w : World) (hr : RdL i64 w p (nz l)) (h0 : 0 < l.length) (hlen : l.length ≤ 4096) :
  Ret Tryz.prog 149 #[p] w fun v w' => v = i64 (Df.mx l : Int) ∧ Ext w w' := by
 have hM := M.start w
 refine enter Tryz.func149 rfl (by kernel_rfl) Tryz.ntmps149 rfl $ Kb $ Kc rfl $ C.cut0 [(0, _)] rfl [] (fun w' => M w (Nn) w' []) ?_ ?_
 ·
  refine Kb $ Km rfl $ E.lenv rfl (Rd.shape (hM.arg0 hr)) U76 rfl ?_
  rw [nz_len]
  have hnl := nz_len l
  refine Kp rfl $ Ka $ C.cond' rfl (fun hC0 => ?_) (fun hC0 => ?_)
  ·
   omega
  refine C.skip $ X.join0  (Sub.nil _) rfl hM
 rintro  w0 hM
 refine Kb $ Km rfl $ E.get (k := 0) rfl rfl (hM.arg0 hr) rfl (by rw [nz_len]; omega) U76 (by kernel_rfl) U3 rfl rfl rfl ?_
 rw [nz_get h0]
 refine Kc rfl $ C.seq $ Kb $ Kc rfl $ C.block $ C.loop1 [(0, _)] rfl (fun (i : Nat) => [(3, i64 (Df.mx (l.take i) : Int)), (4, i64 i)]) (fun (i : Nat) w' => M w (Nn) w' [] ∧ 1 ≤ i ∧ i ≤ l.length) (fun (i : Nat) => l.length - i) 1 ?_ ?_ ?_
 · exact Sub.cons (look_val rfl (by rw [show l.take 1 = [] ++ [l[0]] by rw [← List.take_append_getElem h0]; rfl, Df.mx_snoc]; show (l[0] : Int) = ((max 0 l[0] : Nat) : Int); omega)) $ S1 rfl
 · exact ⟨hM, by omega, by omega⟩
 rintro i w1 ⟨hM, hi1, hi⟩
 refine C.seq $ Kb $ Kf rfl $ E.lenv rfl (Rd.shape (hM.arg0 hr)) U76 rfl ?_
 rw [nz_len]
 refine Kp rfl $ Ka $ C.cond' rfl (fun hC1 => ?_) (fun hC1 => ?_)
 ·
  have hi' : i < l.length := by omega
  refine Kk $ C.seq $ C.block $ C.region $ Kf rfl $ Km rfl $ E.get (k := i) rfl rfl (hM.arg0 hr) rfl (by rw [nz_len]; omega) U76 (by kernel_rfl) U3 rfl rfl rfl ?_
  rw [nz_get hi']
  refine E.max2 rfl rfl rfl $ Kn rfl $ E.nil $ X.outN $ X.next $ C.region $ Km rfl $ E.addN (a := i) (b := 1) rfl rfl (by omega) rfl $ Kn rfl $ E.nil $ X.again1 (i + 1) (Sub.cons (look_val rfl (by rw [← List.take_append_getElem hi', Df.mx_snoc]; omega)) $ S1 rfl) rfl ⟨hM, by omega, by omega⟩ (by omega)
 obtain rfl : i = l.length := by omega
 rw [List.take_length]
 refine Kx $ Kb $ Km rfl $ Kc rfl $ C.ret $ ret1 rfl rfl ?_
 exact ⟨rfl, hM.toExt⟩
set_option maxHeartbeats 4000000 in
set_option maxRecDepth 4000 in
theorem newDecoder_ret (p : Value) (l : List Nat) (w : World) (hr : RdL i64 w p (nz l)) (h0 : 0 < l.length) (hlen : l.length ≤ 4096) (hb : ∀ n ∈ l, n ≤ 15) :
  Ret Tryz.prog 115 #[p] w fun v w' => ∃ b vs, v = pv b ∧ M w Nn w' [Sym.Ax b 174 16 (fun n => (Df.cn l n : Int)) [vs, i64 (Df.mx l : Int)], Rg.sl i64 3 vs (nz (Pf.od l))] := by
 have hM := M.start w
 refine enter Tryz.func115 rfl (by kernel_rfl) Tryz.ntmps115 rfl $ Kb $ Kd rfl $ Km rfl $ E.call rfl rfl (Max_ret p l _ (hM.arg0 hr) h0 hlen) ?_
 rintro _ w1 ⟨rfl, x1⟩
 have hM := hM.ext x1
 refine E.buildC (cs := [_, _, _, _, _, _, _, _, _, _, _, _, _, _, _, _, _, _]) [.int .i64 0, .int .i64 0, .int .i64 0, .int .i64 0, .int .i64 0, .int .i64 0, .int .i64 0, .int .i64 0, .int .i64 0, .int .i64 0, .int .i64 0, .int .i64 0, .int .i64 0, .int .i64 0, .int .i64 0, .int .i64 0, .slice none 0 0, .int .i64 0] [17] rfl rfl (by kernel_rfl) rfl $ E.boxM hM rfl rfl rfl ?_
 intro b14 w1 hM
 have hnl := nz_len l
 have hod := Pf.od_le l
 have hmx : Df.mx l ≤ 15 := Df.mx_bd l 0 (by decide) hb
 have hM : M w Nn _ [Sym.Ax b14 174 16 (fun n => ((l.take 0).count n : Int)) [.slice none 0 0, i64 (Df.mx l : Int)]] := hM.to (show _ = _ from congrArg (fun r => [r]) ((congrArg (Rg.blk b14 174) (show _ = (tab 16 (fun n => ((l.take 0).count n : Int))).map i64 ++ [.slice none 0 0, i64 (Df.mx l : Int)] from rfl)).trans (Sym.Ax_eq _ _ _ _ _).symm))
 refine Kc rfl $ C.seq $ Kb $ Km rfl $ E.lenv rfl (Rd.shape (hM.arg0 hr)) U76 rfl ?_
 rw [nz_len]
 refine Km rfl $ Ka $ C.block $ C.loop1 [(0, _), (3, _), (15, _), (16, _)] rfl (fun (i : Nat) => [(17, i64 i)]) (fun (i : Nat) w' => M w (Nn) w' [Sym.Ax b14 174 16 (fun n => ((l.take i).count n : Int)) [.slice none 0 0, i64 (Df.mx l : Int)]] ∧ i ≤ l.length) (fun (i : Nat) => l.length - i) 0 ?_ ?_ ?_
 · exact S1 rfl
 · exact ⟨hM, Nat.zero_le _⟩
 rintro i w2 ⟨hM, hi⟩
 refine Kb $ Kp rfl $ Ka $ C.seq $ C.cond' rfl (fun hC0 => ?_) (fun hC0 => ?_)
 ·
  have hi' : i < l.length := by omega
  have hbi := hb l[i] (List.getElem_mem hi')
  have hcl : (l.take i).count l[i] ≤ 4096 := by have := List.count_le_length (a := l[i]) (l := l.take i); rw [List.length_take] at this; omega
  refine Kk $ C.seq $ C.block $ Kb $ E.get (k := i) rfl rfl (hM.arg0 hr) rfl (by omega) U76 (by kernel_rfl) U3 rfl rfl rfl ?_
  rw [nz_get hi']
  refine Kc rfl $ C.drawnT 10 (by kernel_rfl) (by kernel_rfl) fun wh3 hwh3 => ?_
  have hM := hM.ext hwh3
  refine S.mv rfl rfl $ S.mv rfl rfl $ S.nilc rfl rfl $ S.fld (o := 0) (sz := 15) rfl Tryz.underlying174 rfl rfl (by kernel_rfl) rfl $ S.idxN (i := l[i]) rfl rfl Tryz.underlying172 (by kernel_rfl) (by omega) rfl $ S.load rfl U3 rfl (hM.ax 0 rfl (by omega)) rfl $ S.add rfl rfl (by omega) rfl $ S.nilc rfl rfl $ S.fld (o := 0) (sz := 15) rfl Tryz.underlying174 rfl rfl (by kernel_rfl) rfl $ S.idxN (i := l[i]) rfl rfl Tryz.underlying172 (by kernel_rfl) (by omega) rfl $ S.nil $ E.storeAx 0 (((l.take i).count l[i] : Int) + 1) hM rfl rfl rfl (by kernel_rfl) (by omega) ?_
  intro w4 hM
  refine E.nil $ X.outN $ X.next $ C.region $ E.addN (a := i) (b := 1) rfl rfl (by omega) rfl $ Km rfl $ E.nil $ X.again1 (i + 1) (S1 rfl) rfl ⟨hM.to (congrArg (fun r => [r]) (Sym.Ax_congr fun k _ => Df.count_upd hi' k)), by omega⟩ (by omega)
 obtain rfl : i = l.length := by omega
 refine Kx $ Kb $ Km rfl $ E.nilc rfl rfl $ E.fld (o := 0) (sz := 15) rfl Tryz.underlying174 rfl rfl (by kernel_rfl) rfl $ E.idxN (i := 0) rfl rfl Tryz.underlying172 (by kernel_rfl) (by omega) rfl $ E.storeAx 0 0 hM rfl rfl rfl (by kernel_rfl) (by omega) ?_
 intro w5 hM
 have hM := hM.to (congrArg (fun r => [r]) (Sym.Ax_congr (h := fun n => (Df.cn l n : Int)) fun k _ => Df.count_fin l k))
 refine Ke $ E.allocM (z := .agg #[.int .i64 0, .int .i64 0, .int .i64 0, .int .i64 0, .int .i64 0, .int .i64 0, .int .i64 0, .int .i64 0, .int .i64 0, .int .i64 0, .int .i64 0, .int .i64 0, .int .i64 0, .int .i64 0, .int .i64 0, .int .i64 0, .int .i64 0]) (cs := [.int .i64 0, .int .i64 0, .int .i64 0, .int .i64 0, .int .i64 0, .int .i64 0, .int .i64 0, .int .i64 0, .int .i64 0, .int .i64 0, .int .i64 0, .int .i64 0, .int .i64 0, .int .i64 0, .int .i64 0, .int .i64 0, .int .i64 0]) hM (by kernel_rfl) rfl rfl ?_
 intro b6 w6 hM
 have hM : M w Nn _ [Sym.Ax b14 174 16 (fun n => (Df.cn l n : Int)) [.slice none 0 0, i64 (Df.mx l : Int)], Sym.Ar b6 175 17 (fun n => if n ≤ 0 then (Pf.nx l n : Int) else 0)] := hM.to (Sym.two rfl ((congrArg (Rg.blk b6 175) (show _ = (tab 17 (fun _ => (0 : Int))).map i64 from rfl)).trans ((Sym.Ar_eq _ _ _ _).symm.trans (Sym.Ar_congr fun k _ => Pf.nx_init l k))))
 refine Ka $ C.seq $ Kb $ Km rfl $ E.nilc rfl rfl $ E.fld (o := 0) (sz := 15) rfl Tryz.underlying174 rfl rfl (by kernel_rfl) rfl $ E.loadA (cs := (tab 16 (fun n => (Df.cn l n : Int))).map i64) rfl Tryz.underlying172 rfl (by kernel_rfl) (hM.axA 0 rfl) rfl $ Km rfl $ Ka $ C.block $ C.loop1 [(0, _), (3, _), (6, _), (39, _)] rfl (fun (k : Nat) => [(40, i64 k)]) (fun (k : Nat) w' => M w (Nn) w' [Sym.Ax b14 174 16 (fun n => (Df.cn l n : Int)) [.slice none 0 0, i64 (Df.mx l : Int)], Sym.Ar b6 175 17 (fun n => if n ≤ k then (Pf.nx l n : Int) else 0)] ∧ k ≤ 16) (fun (k : Nat) => 16 - k) 0 ?_ ?_ ?_
 · exact S1 rfl
 · exact ⟨hM, by omega⟩
 rintro k w7 ⟨hM, hk⟩
 refine Kb $ Kp rfl $ Ka $ C.seq $ C.cond' rfl (fun hC1 => ?_) (fun hC1 => ?_)
 ·
  have hk' : k < 16 := by omega
  have hn1 := Pf.nx_le (l := l) (show k ≤ 31 by omega)
  have hn2 := Pf.cnt_le (n := k) (Nat.le_refl l.length)
  have hn3 : Df.cn l k = Pf.cnt l l.length k := rfl
  refine Kk $ C.seq $ C.block $ Kb $ Km rfl $ E.idxV k rfl rfl rfl Tryz.underlying172 U3 (by kernel_rfl) hk' (show _ = some (i64 (Df.cn l k : Int)) by rw [List.getElem?_map, tab_get hk']; rfl) rfl ?_
  refine Kn rfl $ Kc rfl $ C.region $ Km rfl $ E.addN (a := k) (b := 1) rfl rfl (by omega) rfl $ Km rfl $ E.idxN (i := k) rfl rfl Tryz.underlying175 (by kernel_rfl) (by omega) rfl $ E.load rfl U3 rfl (hM.arr 1 rfl (by omega)) rfl ?_
  rw [if_pos (Nat.le_refl k)]
  refine Km rfl $ E.add rfl rfl (by omega) rfl $ E.idxN (i := (k + 1)) rfl rfl Tryz.underlying175 (by kernel_rfl) (by omega) rfl $ E.storeAr 1 ((Pf.nx l k : Int) + (Df.cn l k : Int)) hM rfl rfl rfl (by kernel_rfl) (by omega) ?_
  intro w8 hM
  refine E.nil $ X.outN $ X.next $ C.region $ E.addN (a := k) (b := 1) rfl rfl (by omega) rfl $ Km rfl $ E.nil $ X.again1 (k + 1) (S1 rfl) rfl ⟨hM.to (Sym.two rfl (Sym.Ar_congr fun j _ => Pf.nx_upd l k j)), by omega⟩ (by omega)
 obtain rfl : k = 16 := by omega
 refine Kx $ Kb $ Km rfl $ E.idxN (i := 16) rfl rfl Tryz.underlying175 (by kernel_rfl) (by omega) rfl $ E.load rfl U3 rfl (hM.arr 1 rfl (by omega)) rfl ?_
 rw [if_pos (Nat.le_refl 16), Df.nx16 hb]
 refine E.makeM (by_ := 8) (enc := i64) 0 hM rfl U76 (by kernel_rfl) rfl (by omega) (by omega) rfl ?_
 intro v56 w9 hM
 refine E.nilc rfl rfl $ E.fld (o := 16) (sz := 0) rfl Tryz.underlying174 rfl rfl (by kernel_rfl) rfl $ E.storeAxT 0 0 hM rfl rfl rfl (by kernel_rfl) (hM.sl 2 rfl).one rfl ?_
 intro w10 hM
 refine Ka $ C.seq $ Kb $ Km rfl $ E.lenv rfl (Rd.shape (hM.arg0 hr)) U76 rfl ?_
 rw [nz_len]
 refine Km rfl $ Ka $ C.block $ C.loop1 [(3, _), (6, _), (59, _), (60, _)] rfl (fun (i : Nat) => [(61, i64 i)]) (fun (i : Nat) w' => M w (Nn) w' [Sym.Ax b14 174 16 (fun n => (Df.cn l n : Int)) [v56, i64 (Df.mx l : Int)], Sym.Ar b6 175 17 (fun n => ((Pf.nx l n + Pf.cnt l i n : Nat) : Int)), Rg.sl i64 3 v56 (tab (Pf.od l).length (Pf.lay l i))] ∧ i ≤ l.length) (fun (i : Nat) => l.length - i) 0 ?_ ?_ ?_
 · exact S1 rfl
 · exact ⟨hM.to (three rfl (Sym.Ar_congr (fun k hk => by rw [Pf.cnt_zero, if_pos (by omega)]; rfl)) (by rw [Pf.lay_zero l])), Nat.zero_le _⟩
 rintro i w11 ⟨hM, hi⟩
 refine Kb $ Kp rfl $ Ka $ C.seq $ C.cond' rfl (fun hC2 => ?_) (fun hC2 => ?_)
 ·
  have hi' : i < l.length := by omega
  have hbi := hb l[i] (List.getElem_mem hi')
  refine Kk $ C.cut0 [(3, _), (6, _), (59, _), (60, _), (61, _)] rfl [] (fun w' => M w (Nn) w' [Sym.Ax b14 174 16 (fun n => (Df.cn l n : Int)) [v56, i64 (Df.mx l : Int)], Sym.Ar b6 175 17 (fun n => ((Pf.nx l n + Pf.cnt l (i + 1) n : Nat) : Int)), Rg.sl i64 3 v56 (tab (Pf.od l).length (Pf.lay l (i + 1)))]) ?_ ?_
  ·
   refine C.block $ Kb $ Km rfl $ E.get (k := i) rfl rfl (hM.arg0 hr) rfl (by omega) U76 (by kernel_rfl) U3 rfl rfl rfl ?_
   rw [nz_get hi']
   refine Kn rfl $ Kd rfl $ Km rfl $ Kp rfl $ Ka $ C.cond' rfl (fun hC3 => ?_) (fun hC3 => ?_)
   ·
    obtain ⟨hp1, hp2⟩ := Pf.lay_put hi' (by omega) (by omega)
    refine C.seq $ C.drawnT 9 (by kernel_rfl) (by kernel_rfl) fun wh12 hwh12 => ?_
    have hM := hM.ext hwh12
    refine S.mv rfl rfl $ S.nilc rfl rfl $ S.fld (o := 16) (sz := 0) rfl Tryz.underlying174 rfl rfl (by kernel_rfl) rfl $ S.load rfl U76 rfl (hM.axT 0 0 rfl rfl) rfl $ S.mv rfl rfl $ S.idxN (i := l[i]) rfl rfl Tryz.underlying175 (by kernel_rfl) (by omega) rfl $ S.load rfl U3 rfl (hM.arr 1 rfl (by omega)) rfl $ S.mv rfl rfl $ S.idx1 (k := Pf.nx l l[i] + Pf.cnt l i l[i]) rfl rfl (hM.sl 2 rfl) rfl (by rw [tab_len]; exact hp1) U76 (by kernel_rfl) rfl $ S.nil $ E.storeL 2 (i : Int) hM rfl rfl rfl (by kernel_rfl) rfl rfl (by rw [tab_len]; exact hp1) ?_
    intro w13 hM
    rw [hp2] at hM
    refine Ka $ C.region $ Km rfl $ E.idxN (i := l[i]) rfl rfl Tryz.underlying175 (by kernel_rfl) (by omega) rfl $ E.load rfl U3 rfl (hM.arr 1 rfl (by omega)) rfl $ E.addN (b := 1) rfl rfl (by omega) rfl $ E.idxN (i := l[i]) rfl rfl Tryz.underlying175 (by kernel_rfl) (by omega) rfl $ E.storeAr 1 ((Pf.nx l l[i] + Pf.cnt l i l[i] + 1 : Nat) : Int) hM rfl rfl rfl (by kernel_rfl) (by omega) ?_
    intro w14 hM
    refine E.nil $ X.outN $ X.join0  (Sub.nil _) rfl (hM.to (three rfl (Sym.Ar_congr fun k _ => Pf.n2_upd hi' (by omega) k) rfl))
   refine C.skip $ X.outN $ X.join0  (Sub.nil _) rfl (hM.to (three rfl (Sym.Ar_congr fun k _ => by rw [Pf.cnt_same hi' (by omega)]) (by rw [tab_congr fun a ha => Pf.lay_skip hi' (by omega) ha])))
  rintro  w15 hM
  refine C.region $ E.addN (a := i) (b := 1) rfl rfl (by omega) rfl $ Km rfl $ E.nil $ X.again1 (i + 1) (S1 rfl) rfl ⟨hM, by omega⟩ (by omega)
 obtain rfl : i = l.length := by omega
 rw [Pf.lay_end] at hM
 refine Kx $ Kb $ Km rfl $ Kc rfl $ C.ret $ ret1 rfl rfl ?_
 exact ⟨_, _, rfl, hM.pick [0, 2] (by decide)⟩
end Go.Proofs.YtajklleiifhipaaGreatDoor
namespace Go.Proofs.YtajklleiifhipaaGreatDoor
open Go.RowKit Sym
theorem shr_u8 {c k : Nat} (hk : k ≤ 7) : (c : Int) / 2 ^ min ((k : Int)).toNat IntKind.u8.bits = ((c / 2 ^ k : Nat) : Int) := by
 have e1 : min ((k : Int)).toNat IntKind.u8.bits = k := by rw [Int.toNat_natCast]; simp [IntKind.bits]; omega
 rw [e1]; simp
theorem and7 (a : Nat) (h : a ≤ 9223372036854775807) : bits .and .i64 (a : Int) 7 = ((a % 8 : Nat) : Int) := by
 have h1 := i64_and_nat a 7 (by omega) (by omega)
 have h2 : a &&& 7 = a % 8 := Nat.and_two_pow_sub_one_eq_mod a 3
 rw [h2] at h1; exact h1
theorem and1u8 (a : Nat) (h : a < 256) : bits .and .u8 (a : Int) 1 = ((a % 2 : Nat) : Int) := by
 have h1 := u8_and_nat a 1 h (by decide)
 rw [Nat.and_one_is_mod] at h1; exact h1
theorem shr3 (a : Nat) : (a : Int) / 2 ^ min (3 : Int).toNat IntKind.i64.bits = ((a / 8 : Nat) : Int) := shr_nat (c := a) (k := 3) (by decide)
theorem or_i64 {a x k : Nat} (hk : k ≤ 61) (ha : a < 2 ^ k) (hx : x ≤ 1) : bits .or .i64 (a : Int) ((x * 2 ^ k : Nat) : Int) = ((a + x * 2 ^ k : Nat) : Int) := by
 have h1 : 2 ^ k ≤ 2 ^ 61 := Nat.pow_le_pow_right (by decide) hk
 have h2 : x * 2 ^ k ≤ 1 * 2 ^ k := Nat.mul_le_mul_right _ hx
 rw [i64_or_nat _ _ (by omega) (by omega), Nat.or_comm, Nat.mul_comm, ← Nat.two_pow_add_eq_or_of_lt ha, Nat.add_comm]
theorem or_one {a x : Nat} (ha : a ≤ 1000000000000) (hx : x ≤ 1) : bits .or .i64 ((2 * a : Nat) : Int) (x : Int) = ((2 * a + x : Nat) : Int) := by
 rw [i64_or_nat _ _ (by omega) (by omega)]
 have := Nat.two_pow_add_eq_or_of_lt (i := 1) (b := x) (by omega) a
 rw [Nat.pow_one] at this; rw [← this]
theorem bit_at {l : List UInt8} {j : Nat} (h : j < 8 * l.length) : (l[j / 8]'(by omega)).toNat / 2 ^ (j % 8) % 2 = if (Df.ub l).getD j false then 1 else 0 := by
 rw [Df.ub_getD h, gdU (show j / 8 < l.length by omega)]
 unfold Df.bit
 by_cases c : (l[j / 8]'(by omega)).toNat / 2 ^ (j % 8) % 2 = 1
 · rw [if_pos (decide_eq_true c)]; exact c
 rw [if_neg (by rw [decide_eq_true_eq]; exact c)]; omega
theorem ite_mul (c : Bool) (k : Nat) : (if c then 1 else 0) * 2 ^ k = if c then 2 ^ k else 0 := by cases c <;> simp
theorem tkv_next {l : List UInt8} {a k : Nat} (h : a + k < 8 * l.length) : tkv (Df.ub l) a (k + 1) = 2 * tkv (Df.ub l) a k + (l[(a + k) / 8]'(by omega)).toNat / 2 ^ ((a + k) % 8) % 2 := by
 have hl := Df.ub_len l
 rw [tkv_succ (by omega), bit_at h, List.getD_eq_getElem?_getD, List.getElem?_eq_getElem (by omega)]; rfl
def Rds {α : Type} (r : Except Int (α × Nat)) (x : α) (a : Nat) (e : Int) : Prop := (e = 0 ∧ r = .ok (x, a)) ∨ (e ≠ 0 ∧ r = .error e)
theorem Rds.ok {α : Type} {r : Except Int (α × Nat)} {x : α} {a : Nat} (h : r = .ok (x, a)) : Rds r x a 0 := .inl ⟨rfl, h⟩
theorem Rds.err {α : Type} {r : Except Int (α × Nat)} {x : α} {a : Nat} {e : Int} (he : e ≠ 0) (h : r = .error e) : Rds r x a e := .inr ⟨he, h⟩
theorem Rds.good {α : Type} {r : Except Int (α × Nat)} {x : α} {a : Nat} {e : Int} (h : Rds r x a e) (he : ¬ e ≠ 0) : r = .ok (x, a) := h.elim (fun h => h.2) fun h => (he h.1).elim
theorem Rds.bad {α : Type} {r : Except Int (α × Nat)} {x : α} {a : Nat} {e : Int} (h : Rds r x a e) (he : e ≠ 0) : r = .error e := h.elim (fun h => (he h.1).elim) fun h => h.2
set_option maxHeartbeats 2000000 in
set_option maxRecDepth 4000 in
theorem sbits_ret (n : Nat) (b a lim : Nat) (p vo fv : Value) (l : List UInt8) (w : World) (hs : Sep w [Rg.blk b 102 [p, i64 ((a : Nat) : Int), i64 (lim : Int), vo, fv]]) (hp : RdL u8 w p l) (ho : Off (fpU [Rg.blk b 102 [p, i64 ((a : Nat) : Int), i64 (lim : Int), vo, fv]]) p l) (ha : a ≤ 8 * l.length) (hl : l.length ≤ 1099511627776) (hn : n ≤ 30) :
  Ret Tryz.prog 113 #[pv b, i64 n] w fun v w' => ∃ (x a' : Nat) (e : Int), v = .tuple #[i64 (x : Int), i64 e] ∧ M w (fpU [Rg.blk b 102 [p, i64 ((a : Nat) : Int), i64 (lim : Int), vo, fv]]) w' [Rg.blk b 102 [p, i64 ((a' : Nat) : Int), i64 (lim : Int), vo, fv]] ∧ Rds (Df.rbits n (Df.ub l) a) x a' e := by
 have hM := M.startS hs
 refine enter Tryz.func113 rfl (by kernel_rfl) Tryz.ntmps113 rfl $ Kb $ Kn rfl $ Kc rfl $ C.seq $ C.seq $ C.drawn (by kernel_rfl) (by kernel_rfl) $ Q.mv rfl rfl $ Q.nilc rfl rfl $ Q.fld (o := 1) (sz := 0) rfl U102 rfl rfl (by kernel_rfl) rfl ?_
 have hul := Df.ub_len l
 refine Q.load rfl U3 rfl (hM.bcell 0 rfl rfl) rfl $ Q.mv rfl rfl $ Q.addN (a := a) (b := n) rfl rfl (by omega) rfl $ Q.mv rfl rfl $ Q.nilc rfl rfl $ Q.fld (o := 0) (sz := 0) rfl U102 rfl rfl (by kernel_rfl) rfl $ Q.load rfl U22 rfl (hM.bcell 0 rfl rfl) rfl $ Q.lenv rfl (Rd.shape (hM.arg hp ho)) U22 rfl $ Q.mulN (a := 8) (b := l.length) rfl rfl (by omega) rfl $ Q.bin rfl rfl rfl rfl $ Q.nil $ fun w0 hx0 => ?_
 have hM := hM.ext hx0
 refine X.next $ C.cond' rfl (fun hC0 => ?_) (fun hC0 => ?_)
 ·
  refine Kb $ Kn rfl $ Kc rfl $ C.ret $ X.retT $ ret2 rfl rfl rfl ?_
  exact ⟨0, a, 10, rfl, hM, .err (by decide) (by rw [Df.rbits, if_pos (by omega)])⟩
 have hr : Df.rbits n (Df.ub l) a = .ok (Df.bs (Df.ub l) a n, a + n) := by rw [Df.rbits, if_neg (by omega)]
 refine Kk $ Kb $ Kc rfl $ C.seq $ Kb $ Kf rfl $ Ka $ C.block $ C.loop1 [(0, _), (21, _)] rfl (fun (i : Nat) => [(6, i64 (Df.bs (Df.ub l) a i : Int)), (22, i64 i)]) (fun (i : Nat) w' => M w (fpU [Rg.blk b 102 [p, i64 ((a : Nat) : Int), i64 (lim : Int), vo, fv]]) w' [Rg.blk b 102 [p, i64 ((a + i : Nat) : Int), i64 (lim : Int), vo, fv]] ∧ i ≤ n) (fun (i : Nat) => n - i) 0 ?_ ?_ ?_
 · exact Sub.cons rfl $ S1 rfl
 · exact ⟨hM, Nat.zero_le _⟩
 rintro i w1 ⟨hM, hi⟩
 refine Kb $ Kp rfl $ Ka $ C.seq $ C.cond' rfl (fun hC1 => ?_) (fun hC1 => ?_)
 ·
  have hi' : a + i < 8 * l.length := by omega
  have hb8 := (l[(a + i) / 8]'(by omega)).toNat_lt
  have hdv : (l[(a + i) / 8]'(by omega)).toNat / 2 ^ ((a + i) % 8) ≤ (l[(a + i) / 8]'(by omega)).toNat := Nat.div_le_self _ _
  have hbt := bit_at hi'
  have hbl := Df.bs_lt (Df.ub l) a i
  have hbs := Df.bs_succ (Df.ub l) a i
  have hp2 : 2 ^ i ≤ 2 ^ 29 := Nat.pow_le_pow_right (by decide) (by omega)
  have hx1 : (l[(a + i) / 8]'(by omega)).toNat / 2 ^ ((a + i) % 8) % 2 ≤ 1 := by omega
  have hm1 := Nat.mul_le_mul_right (2 ^ i) hx1
  refine Kk $ C.seq $ C.block $ Kb $ Km rfl $ Kc rfl $ C.seq $ C.drawn (by kernel_rfl) (by kernel_rfl) $ Q.mv rfl rfl $ Q.mv rfl rfl $ Q.nilc rfl rfl $ Q.fld (o := 0) (sz := 0) rfl U102 rfl rfl (by kernel_rfl) rfl $ Q.load rfl U22 rfl (hM.bcell 0 rfl rfl) rfl $ Q.mv rfl rfl $ Q.nilc rfl rfl $ Q.fld (o := 1) (sz := 0) rfl U102 rfl rfl (by kernel_rfl) rfl $ Q.load rfl U3 rfl (hM.bcell 0 rfl rfl) rfl $ Q.shr rfl rfl (by decide) (shr3 _) rfl $ Q.idx1 (k := (a + i) / 8) rfl rfl (hM.arg hp ho) rfl (by omega) U22 (by kernel_rfl) rfl $ Q.load rfl U5 rfl ((hM.arg hp ho).cell (by omega)) rfl $ Q.mv rfl rfl $ Q.nilc rfl rfl $ Q.fld (o := 1) (sz := 0) rfl U102 rfl rfl (by kernel_rfl) rfl $ Q.load rfl U3 rfl (hM.bcell 0 rfl rfl) rfl $ Q.binw rfl rfl rfl (congrArg _ (and7 (a + i) (by omega))) rfl $ Q.shr rfl rfl (by omega) (shr_u8 (by omega)) rfl $ Q.binw rfl rfl rfl (congrArg _ (and1u8 _ (by omega))) rfl ?_
  refine Q.conv rfl U5 U3 (IntWalk.i64_in _ (by omega)) rfl $ Q.mv rfl rfl $ Q.shl rfl rfl (by omega) (shl_nat (k := i) (by omega) rfl (by omega)) rfl $ Q.binw rfl rfl rfl (congrArg _ (or_i64 (by omega) hbl hx1)) rfl $ Q.asg rfl rfl $ Q.nil $ fun w2 hx2 => ?_
  have hM := hM.ext hx2
  refine X.next $ C.region $ Km rfl $ E.nilc rfl rfl $ E.fld (o := 1) (sz := 0) rfl U102 rfl rfl (by kernel_rfl) rfl $ E.load rfl U3 rfl (hM.bcell 0 rfl rfl) rfl $ E.addN (a := a + i) (b := 1) rfl rfl (by omega) rfl $ E.nilc rfl rfl $ E.fld (o := 1) (sz := 0) rfl U102 rfl rfl (by kernel_rfl) rfl $ E.storeM 0 hM rfl rfl rfl (by kernel_rfl) rfl rfl ?_
  intro w3 hM
  refine E.nil $ X.outN $ X.next $ C.region $ E.addN (a := i) (b := 1) rfl rfl (by omega) rfl $ Km rfl $ E.nil $ X.again1 (i + 1) (Sub.cons (look_val rfl (by rw [hbs, hbt, ite_mul])) $ S1 rfl) rfl ⟨hM, by omega⟩ (by omega)
 obtain rfl : i = n := by omega
 refine Kx $ Kb $ Km rfl $ Kn rfl $ Kc rfl $ C.ret $ ret2 rfl rfl rfl ?_
 exact ⟨_, a + i, 0, rfl, hM, .ok hr⟩
set_option maxHeartbeats 4000000 in
set_option maxRecDepth 4000 in
theorem ssym_ret (bd : Nat) (vs : Value) (L : List Nat) (b a lim : Nat) (p vo fv : Value) (l : List UInt8) (w : World) (hs : Sep w [Rg.blk b 102 [p, i64 ((a : Nat) : Int), i64 (lim : Int), vo, fv], Sym.Ax bd 174 16 (fun n => (Df.cn L n : Int)) [vs, i64 (Df.mx L : Int)], Rg.sl i64 3 vs (nz (Pf.od L))]) (hp : RdL u8 w p l) (ho : Off (fpU [Rg.blk b 102 [p, i64 ((a : Nat) : Int), i64 (lim : Int), vo, fv], Sym.Ax bd 174 16 (fun n => (Df.cn L n : Int)) [vs, i64 (Df.mx L : Int)], Rg.sl i64 3 vs (nz (Pf.od L))]) p l) (ha : a ≤ 8 * l.length) (hl : l.length ≤ 1099511627776) (hc : Df.Code L) (hcL : L.length ≤ 4294967296) :
  Ret Tryz.prog 150 #[pv b, pv bd] w fun v w' => ∃ (x a' : Nat) (e : Int), v = .tuple #[i64 (x : Int), i64 e] ∧ M w (fpU [Rg.blk b 102 [p, i64 ((a : Nat) : Int), i64 (lim : Int), vo, fv], Sym.Ax bd 174 16 (fun n => (Df.cn L n : Int)) [vs, i64 (Df.mx L : Int)], Rg.sl i64 3 vs (nz (Pf.od L))]) w' [Rg.blk b 102 [p, i64 ((a' : Nat) : Int), i64 (lim : Int), vo, fv], Sym.Ax bd 174 16 (fun n => (Df.cn L n : Int)) [vs, i64 (Df.mx L : Int)], Rg.sl i64 3 vs (nz (Pf.od L))] ∧ Rds (Df.rsym L (Df.ub l) a) x a' e := by
 have hM := M.startS hs
 refine enter Tryz.func150 rfl (by kernel_rfl) Tryz.ntmps150 rfl $ Kb $ Kn rfl $ Kd rfl $ Kn rfl $ Kn rfl $ Kc rfl $ C.seq $ Kb $ Kc rfl $ C.block $ ?_
 have hul := Df.ub_len l
 have hmx : Df.mx L ≤ 15 := Df.mx_bd L 0 (by decide) hc.le
 refine C.loop1 [(0, _), (1, _)] rfl (fun (k : Nat) => [(6, i64 ((2 * tkv (Df.ub l) a k : Nat) : Int)), (7, i64 (Df.fc L (k + 1) : Int)), (8, i64 (Pf.nx L (k + 1) : Int)), (9, i64 ((k + 1 : Nat) : Int))]) (fun (k : Nat) w' => M w (fpU [Rg.blk b 102 [p, i64 ((a : Nat) : Int), i64 (lim : Int), vo, fv], Sym.Ax bd 174 16 (fun n => (Df.cn L n : Int)) [vs, i64 (Df.mx L : Int)], Rg.sl i64 3 vs (nz (Pf.od L))]) w' [Rg.blk b 102 [p, i64 ((a + k : Nat) : Int), i64 (lim : Int), vo, fv], Sym.Ax bd 174 16 (fun n => (Df.cn L n : Int)) [vs, i64 (Df.mx L : Int)], Rg.sl i64 3 vs (nz (Pf.od L))] ∧ k ≤ Df.mx L ∧ a + k ≤ 8 * l.length ∧ Df.rgo L (Df.ub l) a (Df.mx L - k) k = Df.rsym L (Df.ub l) a ∧ Df.fc L (k + 1) ≤ 2 * tkv (Df.ub l) a k) (fun (k : Nat) => 16 - k) 0 ?_ ?_ ?_
 · exact Sub.cons (look_val rfl (by rw [tkv_zero]; rfl)) $ Sub.cons (look_val rfl (by rw [Df.fc_one]; rfl)) $ Sub.cons rfl $ S1 rfl
 · exact ⟨hM, Nat.zero_le _, ha, rfl, by rw [Df.fc_one]; exact Nat.zero_le _⟩
 rintro k w0 ⟨hM, hk, hak, hrg, hfc⟩
 refine C.seq $ Kb $ Kf rfl $ E.nilc rfl rfl $ E.fld (o := 17) (sz := 0) rfl Tryz.underlying174 rfl rfl (by kernel_rfl) rfl $ E.load rfl U3 rfl (hM.axT 1 1 rfl rfl) rfl $ Kp rfl $ Ka $ C.cond' rfl (fun hC0 => ?_) (fun hC0 => ?_)
 ·
  have hk' : k < Df.mx L := by omega
  obtain ⟨fu, hfu⟩ : ∃ fu, Df.mx L - k = fu + 1 := ⟨Df.mx L - k - 1, by omega⟩
  rw [hfu, Df.rgo] at hrg
  refine Kk $ C.seq $ C.block $ C.seq $ C.seq $ C.drawn (by kernel_rfl) (by kernel_rfl) $ Q.mv rfl rfl $ Q.nilc rfl rfl $ Q.fld (o := 1) (sz := 0) rfl U102 rfl rfl (by kernel_rfl) rfl $ Q.load rfl U3 rfl (hM.bcell 0 rfl rfl) rfl $ Q.mv rfl rfl $ Q.nilc rfl rfl $ Q.fld (o := 0) (sz := 0) rfl U102 rfl rfl (by kernel_rfl) rfl $ Q.load rfl U22 rfl (hM.bcell 0 rfl rfl) rfl $ Q.lenv rfl (Rd.shape (hM.arg hp ho)) U22 rfl $ Q.mulN (a := 8) (b := l.length) rfl rfl (by omega) rfl $ Q.bin rfl rfl rfl rfl $ Q.nil $ fun w1 hx1 => ?_
  have hM := hM.ext hx1
  refine X.next $ C.cond' rfl (fun hC1 => ?_) (fun hC1 => ?_)
  ·
   rw [if_pos (by omega)] at hrg
   refine Kb $ Kn rfl $ Kc rfl $ C.ret $ X.retT $ X.retB $ X.retT $ X.retT $ X.retB $ X.retT $ ret2 rfl rfl rfl ?_
   exact ⟨0, a + k, 10, rfl, hM, .err (by decide) hrg.symm⟩
  rw [if_neg (by omega)] at hrg
  have hi' : a + k < 8 * l.length := by omega
  have hb8 := (l[(a + k) / 8]'(by omega)).toNat_lt
  have hdv : (l[(a + k) / 8]'(by omega)).toNat / 2 ^ ((a + k) % 8) ≤ (l[(a + k) / 8]'(by omega)).toNat := Nat.div_le_self _ _
  have htn := tkv_next hi'
  have hx1 : (l[(a + k) / 8]'(by omega)).toNat / 2 ^ ((a + k) % 8) % 2 ≤ 1 := by omega
  have htk := tkv_40 (b := Df.ub l) (a := a) (n := k) (by omega) (by omega)
  have htk1 := tkv_40 (b := Df.ub l) (a := a) (n := k + 1) (by omega) (by omega)
  have hfl : Df.fc L (k + 1) ≤ 1073741824 := Pf.np_le hc.b30 hc.kr (by omega) (Nat.zero_le _)
  have hcl : Df.cn L (k + 1) ≤ L.length := Pf.cnt_le (Nat.le_refl _)
  have hnr := Df.nx_run (l := L) (n := k + 1) (by omega)
  have hod := Pf.od_le L
  refine Kk $ C.seq $ C.drawn (by kernel_rfl) (by kernel_rfl) $ Q.mv rfl rfl $ Q.mv rfl rfl $ Q.nilc rfl rfl $ Q.fld (o := 0) (sz := 0) rfl U102 rfl rfl (by kernel_rfl) rfl $ Q.load rfl U22 rfl (hM.bcell 0 rfl rfl) rfl $ Q.mv rfl rfl $ Q.nilc rfl rfl $ Q.fld (o := 1) (sz := 0) rfl U102 rfl rfl (by kernel_rfl) rfl $ Q.load rfl U3 rfl (hM.bcell 0 rfl rfl) rfl $ Q.shr rfl rfl (by decide) (shr3 _) rfl $ Q.idx1 (k := (a + k) / 8) rfl rfl (hM.arg hp ho) rfl (by omega) U22 (by kernel_rfl) rfl $ Q.load rfl U5 rfl ((hM.arg hp ho).cell (by omega)) rfl $ Q.mv rfl rfl $ Q.nilc rfl rfl $ Q.fld (o := 1) (sz := 0) rfl U102 rfl rfl (by kernel_rfl) rfl $ Q.load rfl U3 rfl (hM.bcell 0 rfl rfl) rfl $ Q.binw rfl rfl rfl (congrArg _ (and7 (a + k) (by omega))) rfl $ Q.shr rfl rfl (by omega) (shr_u8 (by omega)) rfl $ Q.binw rfl rfl rfl (congrArg _ (and1u8 _ (by omega))) rfl ?_
  refine Q.conv rfl U5 U3 (IntWalk.i64_in _ (by omega)) rfl $ Q.binw rfl rfl rfl (congrArg _ (or_one (by omega) hx1)) rfl ?_
  rw [← htn]
  refine Q.asg rfl rfl $ Q.nil $ fun w2 hx2 => ?_
  have hM := hM.ext hx2
  refine X.next $ Kb $ Km rfl $ E.nilc rfl rfl $ E.fld (o := 1) (sz := 0) rfl U102 rfl rfl (by kernel_rfl) rfl $ E.load rfl U3 rfl (hM.bcell 0 rfl rfl) rfl $ E.addN (a := a + k) (b := 1) rfl rfl (by omega) rfl $ E.nilc rfl rfl $ E.fld (o := 1) (sz := 0) rfl U102 rfl rfl (by kernel_rfl) rfl $ E.storeM 0 hM rfl rfl rfl (by kernel_rfl) rfl rfl ?_
  intro w3 hM
  refine Ka $ C.seq $ Kb $ Kf rfl $ E.subN (a := tkv (Df.ub l) a (k + 1)) (b := Df.fc L (k + 1)) rfl rfl (by omega) rfl $ Kf rfl $ E.nilc rfl rfl $ E.fld (o := 0) (sz := 15) rfl Tryz.underlying174 rfl rfl (by kernel_rfl) rfl $ E.idxN (i := k + 1) rfl rfl Tryz.underlying172 (by kernel_rfl) (by omega) rfl $ E.load rfl U3 rfl (hM.ax 1 rfl (by omega)) rfl $ Kp rfl $ Ka $ C.cond' rfl (fun hC2 => ?_) (fun hC2 => ?_)
  ·
   have hfd := Df.fnd_in hc.b30 (show 1 ≤ k + 1 by omega) (by omega) (v := tkv (Df.ub l) a (k + 1)) (by omega) (by omega)
   rw [hfd] at hrg
   have hix : Pf.nx L (k + 1) + (tkv (Df.ub l) a (k + 1) - Df.fc L (k + 1)) < (Pf.od L).length := by omega
   refine Kb $ Km rfl $ E.nilc rfl rfl $ E.fld (o := 16) (sz := 0) rfl Tryz.underlying174 rfl rfl (by kernel_rfl) rfl $ E.load rfl U76 rfl (hM.axT 0 1 rfl rfl) rfl $ Kf rfl $ E.addN (a := Pf.nx L (k + 1)) (b := tkv (Df.ub l) a (k + 1)) rfl rfl (by omega) rfl $ Km rfl $ E.subN (a := Pf.nx L (k + 1) + tkv (Df.ub l) a (k + 1)) (b := Df.fc L (k + 1)) rfl rfl (by omega) rfl ?_
   rw [show Pf.nx L (k + 1) + tkv (Df.ub l) a (k + 1) - Df.fc L (k + 1) = Pf.nx L (k + 1) + (tkv (Df.ub l) a (k + 1) - Df.fc L (k + 1)) by omega]
   refine E.get (k := Pf.nx L (k + 1) + (tkv (Df.ub l) a (k + 1) - Df.fc L (k + 1))) rfl rfl (hM.sl 2 rfl) rfl (by rw [nz_len]; omega) U76 (by kernel_rfl) U3 rfl rfl rfl ?_
   rw [nz_gd]
   refine Kn rfl $ Kc rfl $ C.ret $ X.retT $ X.retB $ X.retT $ X.retT $ X.retB $ X.retT $ ret2 rfl rfl rfl ?_
   exact ⟨_, a + k + 1, 0, rfl, hM, .ok hrg.symm⟩
  have hfd := Df.fnd_out (l := L) (show 1 ≤ k + 1 by omega) (by omega) (v := tkv (Df.ub l) a (k + 1)) (by omega)
  rw [hfd] at hrg
  have hfs := Df.fc_succ (l := L) (n := k + 1) (by omega) (by omega)
  have hns := Pf.nx_succ L (k + 1)
  have hcn : Df.cn L (k + 1) = Pf.cnt L L.length (k + 1) := rfl
  rw [show fu = Df.mx L - (k + 1) by omega] at hrg
  have hoL : L.length ≤ 4294967296 := hcL
  refine Kk $ Kb $ Kf rfl $ Km rfl $ E.nilc rfl rfl $ E.fld (o := 0) (sz := 15) rfl Tryz.underlying174 rfl rfl (by kernel_rfl) rfl $ E.idxN (i := k + 1) rfl rfl Tryz.underlying172 (by kernel_rfl) (by omega) rfl $ E.load rfl U3 rfl (hM.ax 1 rfl (by omega)) rfl $ E.addN (a := Pf.nx L (k + 1)) (b := Df.cn L (k + 1)) rfl rfl (by omega) rfl $ Kd rfl $ Kf rfl $ Km rfl $ E.nilc rfl rfl $ E.fld (o := 0) (sz := 15) rfl Tryz.underlying174 rfl rfl (by kernel_rfl) rfl $ E.idxN (i := k + 1) rfl rfl Tryz.underlying172 (by kernel_rfl) (by omega) rfl $ E.load rfl U3 rfl (hM.ax 1 rfl (by omega)) rfl $ E.addN (a := Df.fc L (k + 1)) (b := Df.cn L (k + 1)) rfl rfl (by omega) rfl $ E.shl rfl rfl (by decide) (shl_nat (k := 1) (c := Df.fc L (k + 1 + 1)) (by decide) (by omega) (by omega)) rfl $ Kc rfl $ C.region $ Km rfl $ E.shl rfl rfl (by decide) (shl_nat (k := 1) (c := 2 * tkv (Df.ub l) a (k + 1)) (by decide) (by omega) (by omega)) rfl $ Kn rfl $ E.nil $ X.outN $ X.next $ C.region $ Km rfl $ E.addN (a := k + 1) (b := 1) rfl rfl (by omega) rfl ?_
  refine Kn rfl $ E.nil $ X.again1 (k + 1) (Sub.cons rfl $ Sub.cons rfl $ Sub.cons (look_val rfl (by rw [hns]; rfl)) $ S1 rfl) rfl ⟨hM, by omega, by omega, hrg, by omega⟩ (by omega)
 rw [show Df.mx L - k = 0 by omega, Df.rgo] at hrg
 refine Kx $ Kb $ Kn rfl $ Kc rfl $ C.ret $ ret2 rfl rfl rfl ?_
 exact ⟨0, a + k, 9, rfl, hM, .err (by decide) hrg.symm⟩
end Go.Proofs.YtajklleiifhipaaGreatDoor
namespace Go.Proofs.YtajklleiifhipaaGreatDoor
open Sym
namespace Df
def us (l : List Nat) : Nat := (l.filter fun n => decide (0 < n)).length
def acc (l : List Nat) : Bool := decide (chv (nz l) = 0 ∨ (us l = 1 ∧ l.sum = 1))
def rl3 : Nat → Nat → List Nat → List Bool → Nat → Except Int (List Nat × Nat)
 | 0, _, c => fun _ a => .ok (c, a)
 | k + 1, i, c => bnd (rbits 3) fun v => rl3 k (i + 1) (c.set (ordL.getD i 0) v)
theorem cut_l3 : ∀ (k i : Nat) (c : List Nat), Cut (rl3 k i c)
 | 0, i, c => by rw [rl3]; exact Cut.ok c
 | k + 1, i, c => by rw [rl3]; exact (cut_bits 3).bnd fun v => cut_l3 k (i + 1) _
def lsv (s : Nat) (out : List Nat) : Nat := if s = 16 then out.getD (out.length - 1) 0 else 0
def lsl (s : Nat) : Nat := if s = 18 then 11 else 3
def lsx (s : Nat) : Nat := if s = 16 then 2 else if s = 18 then 7 else 3
noncomputable def rln (C : List Nat) (n : Nat) (out : List Nat) : List Bool → Nat → Except Int (List Nat × Nat) :=
 if h : out.length < n then bnd (rsym C) fun s =>
  if s < 16 then rln C n (out ++ [s])
  else if s = 16 ∧ out.length = 0 then fun _ _ => .error 9
  else bnd (rbits (lsx s)) fun x => if n < out.length + lsl s + x then fun _ _ => .error 9 else rln C n (out ++ List.replicate (lsl s + x) (lsv s out))
 else fun _ a => .ok (out, a)
termination_by n - out.length
decreasing_by
 all_goals
  have : 3 ≤ lsl s := by unfold lsl; split <;> omega
  simp only [List.length_append, List.length_replicate, List.length_singleton]; omega
theorem rln_end {C : List Nat} {n : Nat} {out : List Nat} (h : ¬ out.length < n) : rln C n out = fun _ a => .ok (out, a) := by rw [rln, dif_neg h]
theorem rln_on {C : List Nat} {n : Nat} {out : List Nat} (h : out.length < n) : rln C n out = bnd (rsym C) fun s =>
  if s < 16 then rln C n (out ++ [s])
  else if s = 16 ∧ out.length = 0 then fun _ _ => .error 9
  else bnd (rbits (lsx s)) fun x => if n < out.length + lsl s + x then fun _ _ => .error 9 else rln C n (out ++ List.replicate (lsl s + x) (lsv s out)) := by rw [rln, dif_pos h]
theorem cut_ln (C : List Nat) (n : Nat) (out : List Nat) : Cut (rln C n out) := by
  by_cases h : out.length < n
  · rw [rln_on h]
    refine (cut_sym C).bnd fun s => ?_
    split
    · exact cut_ln C n (out ++ [s])
    split
    · exact Cut.fail 9
    refine (cut_bits _).bnd fun x => ?_
    split
    · exact Cut.fail 9
    exact cut_ln C n _
  rw [rln_end h]; exact Cut.ok out
termination_by n - out.length
decreasing_by
  all_goals
    have : 3 ≤ lsl s := by unfold lsl; split <;> omega
    simp only [List.length_append, List.length_replicate, List.length_singleton]; omega
def badl (l : List Nat) (m : Nat) : Prop := acc (l.take m) = false ∨ l.getD 256 0 = 0 ∨ (acc (l.drop m) = false ∧ 0 < us (l.drop m))
instance (l : List Nat) (m : Nat) : Decidable (badl l m) := by unfold badl; exact inferInstance
noncomputable def rown : List Bool → Nat → Except Int ((List Nat × List Nat) × Nat) :=
 bnd (rbits 5) fun x => bnd (rbits 5) fun y => bnd (rbits 4) fun z =>
  if 286 < x + 257 ∨ 30 < y + 1 then fun _ _ => .error 9
  else bnd (rl3 (z + 4) 0 (List.replicate 19 0)) fun c =>
   if chv (nz c) = 0 then bnd (rln c (x + 257 + (y + 1)) []) fun l => if badl l (x + 257) then fun _ _ => .error 27 else fun _ a => .ok ((l.take (x + 257), l.drop (x + 257)), a)
   else fun _ _ => .error 27
theorem cut_own : Cut rown := by
  unfold rown
  refine (cut_bits _).bnd fun x => (cut_bits _).bnd fun y => (cut_bits _).bnd fun z => ?_
  split
  · exact Cut.fail 9
  refine (cut_l3 _ _ _).bnd fun c => ?_
  split
  · refine (cut_ln _ _ _).bnd fun l => ?_
    split
    · exact Cut.fail 27
    exact Cut.ok _
  exact Cut.fail 27
def rsto (lim : Nat) (p : List UInt8) (out : List UInt8) (B : List Bool) (a : Nat) : Except Int (List UInt8 × Nat) :=
 match rbits 16 B ((a + 7) / 8 * 8) with
 | .error e => .error e
 | .ok (n, a1) => match rbits 16 B a1 with
  | .error e => .error e
  | .ok (c, a2) => if n ^^^ c ≠ 65535 then .error 9 else if lim < out.length + n then .error 4 else if p.length < a2 / 8 + n then .error 10 else .ok (out ++ (p.drop (a2 / 8)).take n, a2 + 8 * n)
noncomputable def rkin (lim : Nat) (p out : List UInt8) (k : Nat) (B : List Bool) (a : Nat) : Except Int (List UInt8 × Nat) :=
 if k = 0 then rsto lim p out B a else if k = 1 then tk fixL fixD lim B a out else if k = 2 then bnd rown (fun x => fun B a => tk x.1 x.2 lim B a out) B a else .error 9
noncomputable def rblk (lim : Nat) (p out : List UInt8) : List Bool → Nat → Except Int ((Nat × List UInt8) × Nat) :=
 bnd (rbits 1) fun x => bnd (rbits 2) fun k => bnd (rkin lim p out k) fun o => fun _ a => .ok ((x, o), a)
noncomputable def rinf (lim : Nat) (p out : List UInt8) (B : List Bool) (a : Nat) : Except Int (List UInt8 × Nat) :=
 match rblk lim p out B a with
 | .error e => .error e
 | .ok ((x, o), a') => if x = 1 then .ok (o, a') else if h : a < a' ∧ a' ≤ B.length then rinf lim p o B a' else .error 0
termination_by B.length - a
theorem rinf_err {lim : Nat} {p out : List UInt8} {B : List Bool} {a : Nat} {e : Int} (h : rblk lim p out B a = .error e) : rinf lim p out B a = .error e := by rw [rinf, h]
theorem rinf_last {lim : Nat} {p out o : List UInt8} {B : List Bool} {a a' : Nat} (h : rblk lim p out B a = .ok ((1, o), a')) : rinf lim p out B a = .ok (o, a') := by rw [rinf, h]; simp
theorem rinf_more {lim : Nat} {p out o : List UInt8} {B : List Bool} {a a' x : Nat} (h : rblk lim p out B a = .ok ((x, o), a')) (hx : x ≠ 1) (ha : a < a' ∧ a' ≤ B.length) : rinf lim p out B a = rinf lim p o B a' := by rw [rinf, h]; simp only; rw [if_neg hx, dif_pos ha]
noncomputable def inf (p : List UInt8) (lim : Int) : Except Int (List UInt8 × Nat) :=
 if lim < 0 ∨ 16777216 < lim then .error 3 else if 4194304 < p.length then .error 4 else rinf lim.toNat p [] (ub p) 0
theorem tk_adv {L D : List Nat} {lim : Nat} {B : List Bool} {a e : Nat} {out x : List UInt8} (ha : a ≤ B.length) (h : tk L D lim B a out = .ok (x, e)) : a ≤ e ∧ e ≤ B.length := ⟨(tk_cut L D lim B a out x e ha h).1, (tk_cut L D lim B a out x e ha h).2.1⟩
theorem rsto_adv {lim : Nat} {p out x : List UInt8} {a e : Nat} (ha : a ≤ (ub p).length) (h : rsto lim p out (ub p) a = .ok (x, e)) : a ≤ e ∧ e ≤ (ub p).length ∧ x.length ≤ lim := by
 rw [ub_len] at ha
 unfold rsto at h
 cases h1 : rbits 16 (ub p) ((a + 7) / 8 * 8) with
 | error z => rw [h1] at h; cases h
 | ok q =>
  obtain ⟨n, a1⟩ := q
  rw [h1] at h
  simp only at h
  cases h2 : rbits 16 (ub p) a1 with
  | error z => rw [h2] at h; cases h
  | ok q =>
   obtain ⟨c, a2⟩ := q
   rw [h2] at h
   simp only at h
   have k1 := cut_bits 16 (ub p) _ _ _ (by rw [ub_len]; omega) h1
   have k2 := cut_bits 16 (ub p) _ _ _ k1.2.1 h2
   have e1 : a1 = (a + 7) / 8 * 8 + 16 := by unfold rbits at h1; split at h1 <;> cases h1; rfl
   have e2 : a2 = a1 + 16 := by unfold rbits at h2; split at h2 <;> cases h2; rfl
   split at h
   · cases h
   split at h
   · cases h
   split at h
   · cases h
   cases h
   rw [ub_len] at k2 ⊢
   refine ⟨by omega, by omega, ?_⟩
   rw [List.length_append, List.length_take, List.length_drop]; omega
end Df
end Go.Proofs.YtajklleiifhipaaGreatDoor
