/- the reference's reader: symbols. -/
import Derived.Test.YtajklleiifhipaaGreatDoorY0
import Derived.Test.YtajklleiifhipaaGreatDoorY5
import Derived.Test.YtajklleiifhipaaGreatDoorPg26Y
set_option linter.unusedSimpArgs false
set_option linter.unusedVariables false
namespace Go.Proofs.YtajklleiifhipaaGreatDoor
open Go.RowKit Sym
namespace Df
theorem mx_take {l : List Nat} {i : Nat} (h : i < l.length) : mx (l.take (i + 1)) = max (mx (l.take i)) l[i] := by
 unfold mx; rw [← List.take_append_getElem h, List.foldl_append]; rfl
end Df
theorem rbits_one {B : List Bool} {a x a' : Nat} (h : Df.rbits 1 B a = .ok (x, a')) : ∃ (h : a < B.length), a' = a + 1 ∧ x = if B[a] then 1 else 0 := by
 unfold Df.rbits at h
 split at h
 · cases h
 cases h
 refine ⟨by omega, rfl, ?_⟩
 rw [Df.bs_succ, List.getD_eq_getElem?_getD, Nat.add_zero, List.getElem?_eq_getElem (by omega)]
 show Df.bs B a 0 + _ = _
 rw [show Df.bs B a 0 = 0 from rfl, Nat.zero_add]; rfl
theorem RS.sym_fail {L : List Nat} {B : List Bool} {e : Int} {a k x a2 fu : Nat} {e2 : Int} (h : RS e (Df.rbits 1 B (a + k)) x 0 (a + k) a2 e2) (he : e2 ≠ 0) (hk : Df.rgo L B a (fu + 1) k = Df.rsym L B a) : RS e (Df.rsym L B a) 0 0 a a2 e2 := by
  rcases h with ⟨h1, h2, _⟩ | ⟨_, h2, _⟩ | ⟨h1, h2, h3, _⟩
  · exact .inl ⟨h1, h2, rfl⟩
  · exact (he h2).elim
  refine .err h1 h2 ?_
  unfold Df.rbits at h3
  split at h3
  · cases h3
    rw [← hk, Df.rgo, if_pos (by omega)]
  cases h3
theorem RS.sym_on {B : List Bool} {e : Int} {a k x a2 : Nat} {e2 : Int} (h : RS e (Df.rbits 1 B (a + k)) x 0 (a + k) a2 e2) (he : ¬ e2 ≠ 0) : e = 0 ∧ e2 = 0 ∧ a + k < B.length ∧ a2 = a + (k + 1) ∧ tkv B a (k + 1) = 2 * tkv B a k + x := by
  rcases h with ⟨h1, h2, _⟩ | ⟨h1, h2, h3⟩ | ⟨_, h2, _⟩
  · exact (he (by rw [h2]; exact h1)).elim
  · obtain ⟨h4, h5, h6⟩ := rbits_one h3
    exact ⟨h1, h2, h4, by omega, by rw [tkv_succ h4, h6]⟩
  exact (he h2).elim
theorem fnd_no {l : List Nat} {v n : Nat} (hn : 1 ≤ n ∧ n ≤ 30) (h : ∀ j, j < l.length → l.getD j 0 = n → v ≠ Df.fc l n + Pf.cnt l j n) : Pf.fnd l v n = none :=
 Pf.fnd_none.2 fun i hi ⟨_, h1, h2⟩ => h i hi h1 (by rw [← h2]; exact (Df.code_cnt hi h1 hn.1 hn.2).1)
theorem fnd_yes {l : List Nat} {v n i : Nat} (hb : ∀ n ∈ l, n ≤ 30) (hn : 1 ≤ n ∧ n ≤ 30) (hi : i < l.length) (h1 : l.getD i 0 = n) (h : v = Df.fc l n + Pf.cnt l i n) : Pf.fnd l v n = some i :=
 Pf.fnd_some hb hi hn.1 h1 (by rw [h]; exact (Df.code_cnt hi h1 hn.1 hn.2).1)
set_option maxHeartbeats 4000000 in
set_option maxRecDepth 4000 in
theorem symbol34_ret (vs : Value) (L : List Nat) (b a lim : Nat) (p vo : Value) (e : Int) (l : List UInt8) (w : World) (hs : Sep w [Rg.blk b 107 [p, i64 ((a : Nat) : Int), vo, i64 (lim : Int), i64 e]]) (hp : RdL u8 w p l) (ho : Off (fpU [Rg.blk b 107 [p, i64 ((a : Nat) : Int), vo, i64 (lim : Int), i64 e]]) p l) (ha : a ≤ 8 * l.length) (hl : l.length ≤ 1099511627776) (hL : RdL i64 w vs (nz L)) (hoL : Off (fpU [Rg.blk b 107 [p, i64 ((a : Nat) : Int), vo, i64 (lim : Int), i64 e]]) vs (nz L)) (hc : Df.Code L) (hcL : L.length ≤ 4294967296) :
  Ret Tryz.prog 119 #[pv b, vs] w fun v w' => ∃ (x a' : Nat) (e' : Int), v = i64 (x : Int) ∧ M w (fpU [Rg.blk b 107 [p, i64 ((a : Nat) : Int), vo, i64 (lim : Int), i64 e]]) w' [Rg.blk b 107 [p, i64 ((a' : Nat) : Int), vo, i64 (lim : Int), i64 e']] ∧ RS e (Df.rsym L (Df.ub l) a) x 0 a a' e' ∧ a ≤ a' ∧ a' ≤ 8 * l.length := by
 have hM := M.startS hs
 refine enter Tryz.func119 rfl (by kernel_rfl) Tryz.ntmps119 rfl $ Kb $ Kd rfl $ Kc rfl $ C.seq $ Kb $ Kc rfl $ C.block $ C.loop1 [(0, _), (1, _)] rfl (fun (i : Nat) => [(5, i64 (Df.mx (L.take i) : Int)), (6, i64 i)]) (fun (i : Nat) w' => M w (fpU [Rg.blk b 107 [p, i64 ((a : Nat) : Int), vo, i64 (lim : Int), i64 e]]) w' [Rg.blk b 107 [p, i64 ((a : Nat) : Int), vo, i64 (lim : Int), i64 e]] ∧ i ≤ L.length) (fun (i : Nat) => L.length - i) 0 ?_ ?_ ?_
 · exact Sub.cons rfl $ S1 rfl
 · exact ⟨hM, Nat.zero_le _⟩
 rintro i w0 ⟨hM, hi⟩
 refine C.seq $ Kb $ Kf rfl $ E.lenv rfl (Rd.shape (hM.arg hL hoL)) U76 rfl ?_
 rw [nz_len]
 refine Kp rfl $ Ka $ C.cond' rfl (fun hC0 => ?_) (fun hC0 => ?_)
 ·
  have hi' : i < L.length := by omega
  have hmt := Df.mx_take hi'
  refine Kk $ C.seq $ C.block $ C.region $ Kf rfl $ Km rfl $ E.get (k := i) rfl rfl (hM.arg hL hoL) rfl (by rw [nz_len]; exact hi') U76 (by kernel_rfl) U3 rfl rfl rfl ?_
  rw [nz_get hi']
  refine E.max2 rfl rfl rfl $ Kn rfl $ E.nil $ X.outN $ X.next $ C.region $ Km rfl $ E.addN (a := i) (b := 1) rfl rfl (by omega) rfl $ Kn rfl $ E.nil $ X.again1 (i + 1) (Sub.cons (look_val rfl (by rw [hmt]; omega)) $ S1 rfl) rfl ⟨hM, by omega⟩ (by omega)
 obtain rfl : i = L.length := by omega
 rw [List.take_length]
 have hmx : Df.mx L ≤ 15 := Df.mx_bd L 0 (by decide) hc.le
 have hul := Df.ub_len l
 refine Kx $ Kb $ Kd rfl $ Kc rfl $ C.seq $ Kb $ Kc rfl $ C.block $ C.loop2 [(0, _), (1, _), (5, _)] rfl (fun (k : Nat) (q : Nat) => [(7, i64 (tkv (Df.ub l) a k : Int)), (8, i64 q), (9, i64 ((k + 1 : Nat) : Int))]) (fun (k : Nat) (q : Nat) w' => M w (fpU [Rg.blk b 107 [p, i64 ((a : Nat) : Int), vo, i64 (lim : Int), i64 e]]) w' [Rg.blk b 107 [p, i64 (((a + k) : Nat) : Int), vo, i64 (lim : Int), i64 e]] ∧ k ≤ Df.mx L ∧ a + k ≤ 8 * l.length ∧ Df.rgo L (Df.ub l) a (Df.mx L - k) k = Df.rsym L (Df.ub l) a ∧ 2 * q = Df.fc L (k + 1)) (fun (k : Nat) (q : Nat) => 16 - k) 0 0 ?_ ?_ ?_
 · exact Sub.cons (look_val rfl (by rw [tkv_zero]; rfl)) $ Sub.cons rfl $ S1 rfl
 · exact ⟨hM, Nat.zero_le _, ha, rfl, by rw [Df.fc_one]⟩
 rintro k q w1 ⟨hM, hk, hak, hrg, hq⟩
 refine C.seq $ Kb $ Kf rfl $ Kp rfl $ Ka $ C.cond' rfl (fun hC1 => ?_) (fun hC1 => ?_)
 ·
  have hk' : k < Df.mx L := by omega
  obtain ⟨fu, hfu⟩ : ∃ fu, Df.mx L - k = fu + 1 := ⟨Df.mx L - k - 1, by omega⟩
  rw [hfu] at hrg
  have htk := tkv_40 (b := Df.ub l) (a := a) (n := k) (by omega) (by omega)
  have hfl : Df.fc L (k + 1) ≤ 1073741824 := Pf.np_le hc.b30 hc.kr (by omega) (Nat.zero_le _)
  have hcl : Df.cn L (k + 1) ≤ L.length := Pf.cnt_le (Nat.le_refl _)
  refine Kk $ C.seq $ C.block $ Kb $ Km rfl $ E.mulN (a := 2) (b := tkv (Df.ub l) a k) rfl rfl (by omega) rfl $ Km rfl $ E.call rfl rfl (bits34_ret 1 b (a + k) lim p vo e l _ (hM.pick [0] (by decide)).sep (hM.arg hp ho) ((hM.pick [0] (by decide)).offS hp ho) (by omega) hl (by decide)) ?_
  rintro _ w2 ⟨x2, a2, e2, rfl, m2, hr2, ha2, hb2⟩
  have hM := hM.calls [0] (by decide) rfl (by simp) m2
  try dsimp only [Za, Zb, Zc, Zd, repl] at hM
  have hx2 := hr2.bits_lt
  try dsimp only [Za, Zb, Zc, Zd, repl] at hM
  refine E.addN (a := 2 * tkv (Df.ub l) a k) (b := x2) rfl rfl (by omega) rfl $ Kc rfl $ C.seq $ Kb $ Km rfl $ E.nilc rfl rfl $ E.fld (o := 4) (sz := 0) rfl U107 rfl rfl (by kernel_rfl) rfl $ E.load rfl U26 rfl (hM.bcell 0 rfl rfl) rfl $ Kp rfl $ Ka $ C.cond' rfl (fun hC2 => ?_) (fun hC2 => ?_)
  ·
   refine Kb $ Kc rfl $ C.ret $ X.retT $ X.retB $ X.retT $ X.retT $ X.retB $ X.retT $ ret1 rfl rfl ?_
   exact ⟨0, a2, e2, rfl, hM, hr2.sym_fail hC2 hrg, by omega, hb2⟩
  obtain ⟨he, he2, hlt, ha2', htn⟩ := hr2.sym_on hC2
  subst ha2'
  rw [Df.rgo, if_neg (by omega)] at hrg
  rw [← htn]
  refine Kk $ Kb $ Km rfl $ E.mulN (a := 2) (b := q) rfl rfl (by omega) rfl ?_
  rw [hq]
  refine Kd rfl $ Kc rfl $ C.seq $ Kb $ Kc rfl $ C.block $ C.loop1 [(0, _), (1, _), (5, _), (7, _), (8, _), (9, _)] rfl (fun (i : Nat) => [(10, i64 (Pf.cnt L i (k + 1) : Int)), (11, i64 i)]) (fun (i : Nat) w' => M w (fpU [Rg.blk b 107 [p, i64 ((a : Nat) : Int), vo, i64 (lim : Int), i64 e]]) w' [Rg.blk b 107 [p, i64 (((a + (k + 1)) : Nat) : Int), vo, i64 (lim : Int), i64 e2]] ∧ i ≤ L.length ∧ ∀ j, j < i → L.getD j 0 = k + 1 → tkv (Df.ub l) a (k + 1) ≠ Df.fc L (k + 1) + Pf.cnt L j (k + 1)) (fun (i : Nat) => L.length - i) 0 ?_ ?_ ?_
  · exact Sub.cons (look_val rfl (by rw [Pf.cnt_zero]; rfl)) $ S1 rfl
  · exact ⟨hM, Nat.zero_le _, fun j h => absurd h (Nat.not_lt_zero _)⟩
  rintro i w3 ⟨hM, hi, hno⟩
  refine C.seq $ Kb $ Kf rfl $ E.lenv rfl (Rd.shape (hM.arg hL hoL)) U76 rfl ?_
  rw [nz_len]
  refine Kp rfl $ Ka $ C.cond' rfl (fun hC3 => ?_) (fun hC3 => ?_)
  ·
   have hi' : i < L.length := by omega
   have hcs := Pf.cnt_succ hi' (k + 1)
   have hci : Pf.cnt L i (k + 1) ≤ i := Pf.cnt_le (by omega)
   have hgd := Pf.getD_eq hi'
   refine Kk $ C.cut0 [(0, _), (1, _), (5, _), (7, _), (8, _), (9, _), (11, _)] rfl [(10, i64 (Pf.cnt L (i + 1) (k + 1) : Int))] (fun w' => M w (fpU [Rg.blk b 107 [p, i64 ((a : Nat) : Int), vo, i64 (lim : Int), i64 e]]) w' [Rg.blk b 107 [p, i64 (((a + (k + 1)) : Nat) : Int), vo, i64 (lim : Int), i64 e2]] ∧ (L.getD i 0 = k + 1 → tkv (Df.ub l) a (k + 1) ≠ Df.fc L (k + 1) + Pf.cnt L i (k + 1))) ?_ ?_
   ·
    refine C.block $ Kb $ Kf rfl $ E.get (k := i) rfl rfl (hM.arg hL hoL) rfl (by rw [nz_len]; exact hi') U76 (by kernel_rfl) U3 rfl rfl rfl ?_
    rw [nz_get hi']
    refine Km rfl $ Kp rfl $ Ka $ C.cond' rfl (fun hC4 => ?_) (fun hC4 => ?_)
    ·
     have hLi : L[i] = k + 1 := by omega
     refine C.seq $ Kb $ Kf rfl $ Km rfl $ E.addN (a := Df.fc L (k + 1)) (b := Pf.cnt L i (k + 1)) rfl rfl (by omega) rfl $ Kp rfl $ Ka $ C.cond' rfl (fun hC5 => ?_) (fun hC5 => ?_)
     ·
      have hfd := fnd_yes hc.b30 (show 1 ≤ k + 1 ∧ k + 1 ≤ 30 by omega) hi' (hgd.trans hLi) (v := tkv (Df.ub l) a (k + 1)) (by omega)
      rw [hfd] at hrg
      refine Kb $ Km rfl $ Kc rfl $ C.ret $ X.retT $ X.retB $ X.retT $ X.retT $ X.retB $ X.retT $ X.retB $ X.retT $ X.retT $ X.retB $ X.retT $ ret1 rfl rfl ?_
      exact ⟨i, a + (k + 1), e2, rfl, hM, by rw [he, he2]; exact .ok rfl hrg.symm, by omega, hb2⟩
     refine Kk $ C.region $ Km rfl $ E.addN (a := Pf.cnt L i (k + 1)) (b := 1) rfl rfl (by omega) rfl $ Kn rfl $ E.nil $ X.outN $ X.join0  (Sub.cons (look_val rfl (by rw [hcs, if_pos ⟨by omega, hLi.symm⟩])) $ Sub.nil _) rfl ⟨hM, fun _ => by omega⟩
    have hLi : ¬ L[i] = k + 1 := by omega
    refine C.skip $ X.outN $ X.join0  (Sub.cons (look_val rfl (by rw [hcs, if_neg (fun h => hLi h.2.symm)]; rfl)) $ Sub.nil _) rfl ⟨hM, fun h => (hLi (hgd.symm.trans h)).elim⟩
   rintro  w4 ⟨hM, hni⟩
   refine C.region $ Km rfl $ E.addN (a := i) (b := 1) rfl rfl (by omega) rfl $ Kn rfl $ E.nil $ X.again1 (i + 1) (Sub.cons rfl $ S1 rfl) rfl ⟨hM, by omega, fun j hj => by
    by_cases hji : j = i
    · subst hji; exact hni
    exact hno j (by omega)⟩ (by omega)
  obtain rfl : i = L.length := by omega
  have hfd := fnd_no (show 1 ≤ k + 1 ∧ k + 1 ≤ 30 by omega) hno
  rw [hfd] at hrg
  have hfs := Df.fc_succ (l := L) (n := k + 1) (by omega) (by omega)
  have hcn : Df.cn L (k + 1) = Pf.cnt L L.length (k + 1) := rfl
  refine Kx $ C.region $ Kf rfl $ E.addN (a := Df.fc L (k + 1)) (b := Pf.cnt L L.length (k + 1)) rfl rfl (by omega) rfl $ Kn rfl $ E.nil $ X.outN $ X.next $ C.region $ Km rfl $ E.addN (a := k + 1) (b := 1) rfl rfl (by omega) rfl $ Kn rfl $ E.nil $ X.again2 (k + 1) (Df.fc L (k + 1) + Pf.cnt L L.length (k + 1)) (Sub.cons rfl $ Sub.cons rfl $ S1 rfl) rfl ⟨hM.to (by rw [he, he2]), by omega, by omega, by rw [show Df.mx L - (k + 1) = fu by omega]; exact hrg, by omega⟩ (by omega)
 have hkm : k = Df.mx L := by omega
 rw [show Df.mx L - k = 0 by omega, Df.rgo] at hrg
 refine Kx $ Kb $ Km rfl $ E.call rfl rfl (fail34_ret b (a + k) lim p vo e 9 _ (hM.pick [0] (by decide)).sep) ?_
 rintro _ w5 m5
 have hM := hM.calls [0] (by decide) rfl (by simp) m5
 try dsimp only [Za, Zb, Zc, Zd, repl] at hM
 try dsimp only [Za, Zb, Zc, Zd, repl] at hM
 refine Ke $ Kc rfl $ C.ret $ ret1 rfl rfl ?_
 exact ⟨0, a + k, fst e 9, rfl, hM, by
  by_cases he : e = 0
  · rw [he, fst_z]; exact .err rfl (by decide) hrg.symm
  rw [fst_nz he]; exact .old he, by omega, hak⟩
end Go.Proofs.YtajklleiifhipaaGreatDoor
