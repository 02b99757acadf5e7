/- Texts of the claim, laid together: Dg31, Dg32, Dg33, Dg34. -/
import Derived.Test.YtajklleiifhipaaGreatDoorV0
import Derived.Test.YtajklleiifhipaaGreatDoorV3
import Derived.Test.YtajklleiifhipaaGreatDoorV5
import Derived.Test.YtajklleiifhipaaGreatDoorV21
set_option linter.unusedSimpArgs false
set_option linter.unusedVariables false
namespace Go.Proofs.YtajklleiifhipaaGreatDoor
open Go.RowKit Sym
theorem Sym.C.heldXD {P : Program} {Q : Exit → Act → World → Prop} {s : St} {env : Env} {w0 w : World} {S : Nat → Prop} {rs : List Rg} {id : Nat} {l : List Oper} {Sh : World → Prop} (hM : M w0 S w rs) (hm : P.follows .mixedOrders = true) (h : ∀ w', M w0 S w' rs → wpH P l.toArray Q Sh s l.length (Array.replicate l.length false) env w') : wpC P (.region id l.toArray true) Q s env w :=
 C.held _ hm fun w' hx _ => h w' (hM.ext hx)
abbrev LU := List UInt8
theorem low1_mod (x : Nat) : Df.low (x % 2) 1 = Df.low x 1 := by
 rw [Df.low_succ, Df.low_succ, show Df.low (x % 2) 0 = [] from rfl, show Df.low x 0 = [] from rfl]
 unfold Df.bit
 simp
theorem div_pow_succ (c i : Nat) : c / 2 ^ i / 2 = c / 2 ^ (i + 1) := by rw [Nat.div_div_eq_div_mul, Nat.pow_succ]
set_option maxHeartbeats 1000000 in
set_option maxRecDepth 4000 in
theorem rbits_ret (b : Nat) (vo : Value) (B : List Bool) (c n : Nat) (w : World) (hs : Sep w [Rg.blk b 93 [vo, i64 (fr B)], Rg.sl u8 5 vo (Df.pk B)]) (hc : c ≤ 9223372036854775807) (hn : n ≤ 62) (hl : B.length + n ≤ 1099511627776) :
  Ret Tryz.prog 73 #[pv b, i64 c, i64 n] w fun v w' => ∃ vn, M w (fpU [Rg.blk b 93 [vo, i64 (fr B)], Rg.sl u8 5 vo (Df.pk B)]) w' [Rg.blk b 93 [vn, i64 (fr (B ++ Df.low c n))], Rg.sl u8 5 vn (Df.pk (B ++ Df.low c n))] := by
 have hM := M.startS hs
 refine enter Tryz.func73 rfl (by kernel_rfl) Tryz.ntmps73 rfl $ Kb $ Kc rfl $ C.block $ C.loop2 [(0, _), (2, _)] rfl (fun (i : Nat) (vs : Value) => [(1, i64 ((c / 2 ^ i : Nat) : Int)), (6, i64 i)]) (fun (i : Nat) (vs : Value) w' => M w (fpU [Rg.blk b 93 [vo, i64 (fr B)], Rg.sl u8 5 vo (Df.pk B)]) w' [Rg.blk b 93 [vs, i64 (fr (B ++ Df.low c i))], Rg.sl u8 5 vs (Df.pk (B ++ Df.low c i))] ∧ i ≤ n) (fun (i : Nat) (vs : Value) => n - i) 0 vo ?_ ?_ ?_
 · exact Sub.cons (look_val rfl (by rw [Nat.pow_zero, Nat.div_one])) $ S1 rfl
 · exact ⟨hM.to (by rw [show Df.low c 0 = [] from rfl, List.append_nil]), Nat.zero_le _⟩
 rintro i vs w0 ⟨hM, hi⟩
 refine C.seq $ Kb $ Kf rfl $ Kp rfl $ Ka $ C.cond' rfl (fun hC0 => ?_) (fun hC0 => ?_)
 ·
  obtain ⟨Bi, hBi⟩ : ∃ X, X = B ++ Df.low c i := ⟨_, rfl⟩
  rw [← hBi] at hM
  have hBl : Bi.length = B.length + i := by rw [hBi, List.length_append, Df.low_len]
  have hsn : B ++ Df.low c (i + 1) = Bi ++ [Df.bit c i] := by rw [hBi, Df.low_succ, List.append_assoc]
  have hdv : c / 2 ^ i ≤ c := Nat.div_le_self _ _
  refine Kk $ C.seq $ C.block $ C.cut1 [(0, _), (1, _), (2, _), (6, _)] rfl (fun (vk : Value) => []) (fun (vk : Value) w' => M w (fpU [Rg.blk b 93 [vo, i64 (fr B)], Rg.sl u8 5 vo (Df.pk B)]) w' [Rg.blk b 93 [vk, i64 ((8 - Bi.length % 8 : Nat) : Int)], Rg.sl u8 5 vk (Df.pkx Bi)]) ?_ ?_
  ·
   refine Kb $ Km rfl $ E.nilc rfl rfl $ E.fld (o := 1) (sz := 0) rfl U93 rfl rfl (by kernel_rfl) rfl $ E.load rfl U3 rfl (hM.bcell 0 rfl rfl) rfl $ Kp rfl $ Ka $ C.cond' rfl (fun hC1 => ?_) (fun hC1 => ?_)
   ·
    have h0 : Bi.length % 8 = 0 := by unfold fr at hC1; omega
    have hpl := Df.pk_len Bi
    refine Kb $ Kf rfl $ E.nilc rfl rfl $ E.fld (o := 0) (sz := 0) rfl U93 rfl rfl (by kernel_rfl) rfl $ E.load rfl U22 rfl (hM.bcell 0 rfl rfl) rfl $ E.pushM (enc := u8) 1 0 hM rfl rfl rfl U22 elem_Tuint8 rfl (by omega) (by omega) (by simp) rfl rfl ?_
    intro v24 u24 w1 hM
    try dsimp only [Za, Zb, Zc, Zd, repl] at hM
    refine E.nilc rfl rfl $ E.fld (o := 0) (sz := 0) rfl U93 rfl rfl (by kernel_rfl) rfl $ E.storeM 0 hM rfl rfl rfl (by kernel_rfl) (hM.sl 1 rfl).one rfl ?_
    intro w2 hM
    try dsimp only [Za, Zb, Zc, Zd, repl] at hM
    refine Ka $ C.region $ Km rfl $ E.nilc rfl rfl $ E.fld (o := 1) (sz := 0) rfl U93 rfl rfl (by kernel_rfl) rfl $ E.storeM 0 hM rfl rfl rfl (by kernel_rfl) rfl rfl ?_
    intro w3 hM
    try dsimp only [Za, Zb, Zc, Zd, repl] at hM
    refine E.nil $ X.join1 v24 (Sub.nil _) rfl (hM.to (by rw [Df.pkx_new h0, h0]; rfl))
   have h0 : ¬ Bi.length % 8 = 0 := by unfold fr at hC1; omega
   refine C.skip $ X.join1 vs (Sub.nil _) rfl (hM.to (by rw [Df.pkx_old h0]; unfold fr; rw [show (8 - Bi.length % 8) % 8 = 8 - Bi.length % 8 by omega]))
  rintro vk w4 hM
  have hX := Df.pkx_len Bi
  have hpr := Df.pb_r Bi
  have hpg : u8 ((Df.pkx Bi)[Bi.length / 8]'(by omega)) = .int .u8 (Df.pb Bi (Bi.length / 8) : Int) := by unfold u8; rw [Df.pkx_get (B := Bi) (by omega)]
  have hb1 : c / 2 ^ i % 2 ≤ 1 := by omega
  have hp7 : 2 ^ (Bi.length % 8) ≤ 2 ^ 7 := Nat.pow_le_pow_right (by decide) (by omega)
  have hm7 := Nat.mul_le_mul_right (2 ^ (Bi.length % 8)) hb1
  refine Kb $ Km rfl $ E.nilc rfl rfl $ E.fld (o := 0) (sz := 0) rfl U93 rfl rfl (by kernel_rfl) rfl $ E.load rfl U22 rfl (hM.bcell 0 rfl rfl) rfl $ E.lenv rfl (Rd.shape (hM.sl 1 rfl)) U22 rfl ?_
  rw [hX]
  refine E.subN (a := Bi.length / 8 + 1) (b := 1) rfl rfl (by omega) rfl ?_
  rw [Nat.add_sub_cancel]
  refine Kc rfl $ C.cut0 [(0, _), (1, _), (2, _), (6, _)] rfl [] (fun w' => M w (fpU [Rg.blk b 93 [vo, i64 (fr B)], Rg.sl u8 5 vo (Df.pk B)]) w' [Rg.blk b 93 [vk, i64 ((8 - Bi.length % 8 : Nat) : Int)], Rg.sl u8 5 vk (Df.pk (Bi ++ [Df.bit c i]))]) ?_ ?_
  ·
   refine C.heldXD (Sh := fun w' => ∃ (ls : LU), M w (fpU [Rg.blk b 93 [vo, i64 (fr B)], Rg.sl u8 5 vo (Df.pk B)]) w' [Rg.blk b 93 [vk, i64 ((8 - Bi.length % 8 : Nat) : Int)], Rg.sl u8 5 vk ls] ∧ ls.length = Bi.length / 8 + 1) hM (by kernel_rfl) fun wh5 hM => ?_
   have hS : ∃ (ls : LU), M w (fpU [Rg.blk b 93 [vo, i64 (fr B)], Rg.sl u8 5 vo (Df.pk B)]) wh5 [Rg.blk b 93 [vk, i64 ((8 - Bi.length % 8 : Nat) : Int)], Rg.sl u8 5 vk ls] ∧ ls.length = Bi.length / 8 + 1 := ⟨_, hM.pick [0, 1] (by decide), by simp only [Df.pkx_len, Df.pk_len, List.length_append, List.length_singleton] <;> omega⟩
   refine Kt 0 rfl (by kernel_rfl) hS (fun w' ⟨ls, hM, hX⟩ => Y.mv rfl) rfl $ Kt 1 rfl (by kernel_rfl) hS (fun w' ⟨ls, hM, hX⟩ => Y.nilc rfl) rfl $ Ku 2 rfl (by kernel_rfl) hS (Y.fld (o := 0) (sz := 0) rfl U93 rfl rfl (by kernel_rfl)) (fun w' ⟨ls, hM, hX⟩ => Y.fld (o := 0) (sz := 0) rfl U93 rfl rfl (by kernel_rfl)) rfl $ Kt 4 rfl (by kernel_rfl) hS (fun w' ⟨ls, hM, hX⟩ => Y.mv rfl) rfl $ Kt 5 rfl (by kernel_rfl) hS (fun w' ⟨ls, hM, hX⟩ => Y.mv rfl) rfl $ Kt 6 rfl (by kernel_rfl) hS (fun w' ⟨ls, hM, hX⟩ => Y.nilc rfl) rfl $ Ku 7 rfl (by kernel_rfl) hS (Y.fld (o := 0) (sz := 0) rfl U93 rfl rfl (by kernel_rfl)) (fun w' ⟨ls, hM, hX⟩ => Y.fld (o := 0) (sz := 0) rfl U93 rfl rfl (by kernel_rfl)) rfl $ Kt 9 rfl (by kernel_rfl) hS (fun w' ⟨ls, hM, hX⟩ => Y.mv rfl) rfl $ Kt 12 rfl (by kernel_rfl) hS (fun w' ⟨ls, hM, hX⟩ => Y.mv rfl) rfl $ Kt 13 rfl (by kernel_rfl) hS (fun w' ⟨ls, hM, hX⟩ => Y.rem rfl rfl (by omega) (remN (a := c / 2 ^ i) (b := 2))) rfl $ Kt 14 rfl (by kernel_rfl) hS (fun w' ⟨ls, hM, hX⟩ => Y.mv rfl) rfl $ Kt 15 rfl (by kernel_rfl) hS (fun w' ⟨ls, hM, hX⟩ => Y.nilc rfl) rfl ?_
   refine Ku 16 rfl (by kernel_rfl) hS (Y.fld (o := 1) (sz := 0) rfl U93 rfl rfl (by kernel_rfl)) (fun w' ⟨ls, hM, hX⟩ => Y.fld (o := 1) (sz := 0) rfl U93 rfl rfl (by kernel_rfl)) rfl $ Ku 3 rfl (by kernel_rfl) hS (Y.load rfl U22 rfl (hM.bcell 0 rfl rfl)) (fun w' ⟨ls, hM, hX⟩ => Y.load rfl U22 rfl (hM.bcell 0 rfl rfl)) rfl $ Ku 8 rfl (by kernel_rfl) hS (Y.load rfl U22 rfl (hM.bcell 0 rfl rfl)) (fun w' ⟨ls, hM, hX⟩ => Y.load rfl U22 rfl (hM.bcell 0 rfl rfl)) rfl $ Ku 10 rfl (by kernel_rfl) hS (Y.idx1 (k := Bi.length / 8) rfl rfl (hM.sl 1 rfl) rfl (by omega) U22 (by kernel_rfl)) (fun w' ⟨ls, hM, hX⟩ => Y.idx1 (k := Bi.length / 8) rfl rfl (hM.sl 1 rfl) rfl (by omega) U22 (by kernel_rfl)) rfl $ Ku 17 rfl (by kernel_rfl) hS (Y.load rfl U3 rfl (hM.bcell 0 rfl rfl)) (fun w' ⟨ls, hM, hX⟩ => Y.load rfl U3 rfl (hM.bcell 0 rfl rfl)) rfl $ Kt 18 rfl (by kernel_rfl) hS (fun w' ⟨ls, hM, hX⟩ => Y.subN (a := 8) (b := 8 - Bi.length % 8) rfl rfl (by omega)) rfl ?_
   rw [show 8 - (8 - Bi.length % 8) = Bi.length % 8 by omega]
   refine H.two 11 19 rfl rfl (by kernel_rfl) ?_ ?_
   ·
    refine E.load rfl U5 rfl ((hM.sl 1 rfl).cellA rfl (by omega)) rfl ?_
    rw [hpg]
    have hS : ∃ (ls : LU), M w (fpU [Rg.blk b 93 [vo, i64 (fr B)], Rg.sl u8 5 vo (Df.pk B)]) _ [Rg.blk b 93 [vk, i64 ((8 - Bi.length % 8 : Nat) : Int)], Rg.sl u8 5 vk ls] ∧ ls.length = Bi.length / 8 + 1 := ⟨_, hM.pick [0, 1] (by decide), by simp only [Df.pkx_len, Df.pk_len, List.length_append, List.length_singleton] <;> omega⟩
    refine H.back hS $ H.only 19 rfl (by kernel_rfl) $ E.call rfl rfl (rpower_ret (Bi.length % 8) _ (by omega)) ?_
    rintro _ w4 ⟨rfl, x4⟩
    have hM := hM.ext x4
    try dsimp only [Za, Zb, Zc, Zd, repl] at hM
    have hS : ∃ (ls : LU), M w (fpU [Rg.blk b 93 [vo, i64 (fr B)], Rg.sl u8 5 vo (Df.pk B)]) _ [Rg.blk b 93 [vk, i64 ((8 - Bi.length % 8 : Nat) : Int)], Rg.sl u8 5 vk ls] ∧ ls.length = Bi.length / 8 + 1 := ⟨_, hM.pick [0, 1] (by decide), by simp only [Df.pkx_len, Df.pk_len, List.length_append, List.length_singleton] <;> omega⟩
    refine H.back hS $ Kt 20 rfl (by kernel_rfl) hS (fun w' ⟨ls, hM, hX⟩ => Y.mulN (a := c / 2 ^ i % 2) (b := 2 ^ (Bi.length % 8)) rfl rfl (by omega)) rfl $ Ku 21 rfl (by kernel_rfl) hS (Y.conv rfl U3 U5 (IntWalk.u8_in _ (by omega))) (fun w' ⟨ls, hM, hX⟩ => Y.conv rfl U3 U5 (IntWalk.u8_in _ (by omega))) rfl $ Kt 22 rfl (by kernel_rfl) hS (fun w' ⟨ls, hM, hX⟩ => Y.binw (v' := .int .u8 ((Df.pb Bi (Bi.length / 8) + c / 2 ^ i % 2 * 2 ^ (Bi.length % 8) : Nat) : Int)) rfl rfl rfl (congrArg _ ((IntWalk.u8_in _ (by omega)).trans (by omega)))) rfl $ Ku 23 rfl (by kernel_rfl) hS (Y.idx1 (k := Bi.length / 8) rfl rfl (hM.sl 1 rfl) rfl (by omega) U22 (by kernel_rfl)) (fun w' ⟨ls, hM, hX⟩ => Y.idx1 (k := Bi.length / 8) rfl rfl (hM.sl 1 rfl) rfl (by omega) U22 (by kernel_rfl)) rfl $ H.only 24 rfl (by kernel_rfl) $ E.storeL (enc := u8) 1 (UInt8.ofNat (Df.pb Bi (Bi.length / 8) + if Df.bit c i then 2 ^ (Bi.length % 8) else 0)) hM rfl rfl (look_eq rfl (by rw [← bit_mul, ofNat_u8 (by omega)])) (by kernel_rfl) rfl rfl (by omega) ?_
    intro w7 hM
    try dsimp only [Za, Zb, Zc, Zd, repl] at hM
    rw [Df.pkx_put] at hM
    have hS : ∃ (ls : LU), M w (fpU [Rg.blk b 93 [vo, i64 (fr B)], Rg.sl u8 5 vo (Df.pk B)]) _ [Rg.blk b 93 [vk, i64 ((8 - Bi.length % 8 : Nat) : Int)], Rg.sl u8 5 vk ls] ∧ ls.length = Bi.length / 8 + 1 := ⟨_, hM.pick [0, 1] (by decide), by simp only [Df.pkx_len, Df.pk_len, List.length_append, List.length_singleton] <;> omega⟩
    refine H.back hS $ H.done (by kernel_rfl) $ X.join0  (Sub.nil _) rfl hM
   refine E.call rfl rfl (rpower_ret (Bi.length % 8) _ (by omega)) ?_
   rintro _ w4 ⟨rfl, x4⟩
   have hM := hM.ext x4
   try dsimp only [Za, Zb, Zc, Zd, repl] at hM
   have hS : ∃ (ls : LU), M w (fpU [Rg.blk b 93 [vo, i64 (fr B)], Rg.sl u8 5 vo (Df.pk B)]) _ [Rg.blk b 93 [vk, i64 ((8 - Bi.length % 8 : Nat) : Int)], Rg.sl u8 5 vk ls] ∧ ls.length = Bi.length / 8 + 1 := ⟨_, hM.pick [0, 1] (by decide), by simp only [Df.pkx_len, Df.pk_len, List.length_append, List.length_singleton] <;> omega⟩
   refine H.back hS $ Kt 20 rfl (by kernel_rfl) hS (fun w' ⟨ls, hM, hX⟩ => Y.mulN (a := c / 2 ^ i % 2) (b := 2 ^ (Bi.length % 8)) rfl rfl (by omega)) rfl $ Ku 21 rfl (by kernel_rfl) hS (Y.conv rfl U3 U5 (IntWalk.u8_in _ (by omega))) (fun w' ⟨ls, hM, hX⟩ => Y.conv rfl U3 U5 (IntWalk.u8_in _ (by omega))) rfl $ H.only 11 rfl (by kernel_rfl) $ E.load rfl U5 rfl ((hM.sl 1 rfl).cellA rfl (by omega)) rfl ?_
   rw [hpg]
   have hS : ∃ (ls : LU), M w (fpU [Rg.blk b 93 [vo, i64 (fr B)], Rg.sl u8 5 vo (Df.pk B)]) _ [Rg.blk b 93 [vk, i64 ((8 - Bi.length % 8 : Nat) : Int)], Rg.sl u8 5 vk ls] ∧ ls.length = Bi.length / 8 + 1 := ⟨_, hM.pick [0, 1] (by decide), by simp only [Df.pkx_len, Df.pk_len, List.length_append, List.length_singleton] <;> omega⟩
   refine H.back hS $ Kt 22 rfl (by kernel_rfl) hS (fun w' ⟨ls, hM, hX⟩ => Y.binw (v' := .int .u8 ((Df.pb Bi (Bi.length / 8) + c / 2 ^ i % 2 * 2 ^ (Bi.length % 8) : Nat) : Int)) rfl rfl rfl (congrArg _ ((IntWalk.u8_in _ (by omega)).trans (by omega)))) rfl $ Ku 23 rfl (by kernel_rfl) hS (Y.idx1 (k := Bi.length / 8) rfl rfl (hM.sl 1 rfl) rfl (by omega) U22 (by kernel_rfl)) (fun w' ⟨ls, hM, hX⟩ => Y.idx1 (k := Bi.length / 8) rfl rfl (hM.sl 1 rfl) rfl (by omega) U22 (by kernel_rfl)) rfl $ H.only 24 rfl (by kernel_rfl) $ E.storeL (enc := u8) 1 (UInt8.ofNat (Df.pb Bi (Bi.length / 8) + if Df.bit c i then 2 ^ (Bi.length % 8) else 0)) hM rfl rfl (look_eq rfl (by rw [← bit_mul, ofNat_u8 (by omega)])) (by kernel_rfl) rfl rfl (by omega) ?_
   intro w9 hM
   try dsimp only [Za, Zb, Zc, Zd, repl] at hM
   rw [Df.pkx_put] at hM
   have hS : ∃ (ls : LU), M w (fpU [Rg.blk b 93 [vo, i64 (fr B)], Rg.sl u8 5 vo (Df.pk B)]) _ [Rg.blk b 93 [vk, i64 ((8 - Bi.length % 8 : Nat) : Int)], Rg.sl u8 5 vk ls] ∧ ls.length = Bi.length / 8 + 1 := ⟨_, hM.pick [0, 1] (by decide), by simp only [Df.pkx_len, Df.pk_len, List.length_append, List.length_singleton] <;> omega⟩
   refine H.back hS $ H.done (by kernel_rfl) $ X.join0  (Sub.nil _) rfl hM
  rintro  w10 hM
  refine Kb $ Kf rfl $ E.nilc rfl rfl $ E.fld (o := 1) (sz := 0) rfl U93 rfl rfl (by kernel_rfl) rfl $ E.load rfl U3 rfl (hM.bcell 0 rfl rfl) rfl $ E.subN (a := 8 - Bi.length % 8) (b := 1) rfl rfl (by omega) rfl $ E.nilc rfl rfl $ E.fld (o := 1) (sz := 0) rfl U93 rfl rfl (by kernel_rfl) rfl $ E.storeM 0 hM rfl rfl rfl (by kernel_rfl) rfl rfl ?_
  intro w11 hM
  try dsimp only [Za, Zb, Zc, Zd, repl] at hM
  refine Ka $ C.region $ Km rfl $ E.quo rfl rfl (by omega) (quoN (a := c / 2 ^ i) (b := 2) (by omega) (by omega)) rfl ?_
  rw [div_pow_succ]
  refine Kn rfl $ E.nil $ X.outN $ X.next $ C.region $ Km rfl $ E.addN (a := i) (b := 1) rfl rfl (by omega) rfl $ Kn rfl $ E.nil $ X.again2 (i + 1) vk (Sub.cons rfl $ S1 rfl) rfl ⟨hM.to (by rw [hsn, ← fr_snoc]), by omega⟩ (by omega)
 obtain rfl : i = n := by omega
 refine C.exit $ X.exitT $ X.exitT $ X.outE $ end0 rfl ?_
 exact ⟨vs, hM⟩
set_option maxHeartbeats 1000000 in
set_option maxRecDepth 4000 in
theorem rsymbol_ret (b : Nat) (vo vl vc : Value) (B : List Bool) (l : List Nat) (s : Nat) (w : World) (hs : Sep w [Rg.blk b 93 [vo, i64 (fr B)], Rg.sl u8 5 vo (Df.pk B), Rg.sl i64 3 vl (nz l), Rg.sl i64 3 vc (Pf.cdl l)]) (hsl : s < l.length) (hb : ∀ n ∈ l, n ≤ 30) (hkr : Pf.kr l ≤ 1073741824) (hl : B.length ≤ 549755813888) :
  Ret Tryz.prog 105 #[pv b, i64 s, vl, vc] w fun v w' => ∃ vn, M w (fpU [Rg.blk b 93 [vo, i64 (fr B)], Rg.sl u8 5 vo (Df.pk B), Rg.sl i64 3 vl (nz l), Rg.sl i64 3 vc (Pf.cdl l)]) w' [Rg.blk b 93 [vn, i64 (fr (B ++ btv (Pf.code l s) (l.getD s 0)))], Rg.sl u8 5 vn (Df.pk (B ++ btv (Pf.code l s) (l.getD s 0))), Rg.sl i64 3 vl (nz l), Rg.sl i64 3 vc (Pf.cdl l)] := by
 have hM := M.startS hs
 refine enter Tryz.func105 rfl (by kernel_rfl) Tryz.ntmps105 rfl $ Kb $ Kf rfl $ ?_
 have hnl := nz_len l
 have hcl := cdl_len l
 have hbs := hb l[s] (List.getElem_mem hsl)
 have hcb := code_big hb hkr s
 have hgd := Pf.getD_eq hsl
 refine E.get (k := s) rfl rfl (hM.sl 2 rfl) rfl (by omega) U76 (by kernel_rfl) U3 rfl rfl rfl ?_
 rw [nz_get hsl]
 refine E.sub' rfl rfl (by omega) rfl $ Kc rfl $ C.block $ C.loop2 [(0, _), (1, _), (3, _)] rfl (fun (j : Nat) (vs : Value) => [(8, i64 ((l[s] : Int) - 1 - j))]) (fun (j : Nat) (vs : Value) w' => M w (fpU [Rg.blk b 93 [vo, i64 (fr B)], Rg.sl u8 5 vo (Df.pk B), Rg.sl i64 3 vl (nz l), Rg.sl i64 3 vc (Pf.cdl l)]) w' [Rg.blk b 93 [vs, i64 (fr (B ++ tab j (bt (Pf.code l s) l[s])))], Rg.sl u8 5 vs (Df.pk (B ++ tab j (bt (Pf.code l s) l[s]))), Rg.sl i64 3 vl (nz l), Rg.sl i64 3 vc (Pf.cdl l)] ∧ j ≤ l[s]) (fun (j : Nat) (vs : Value) => l[s] - j) 0 vo ?_ ?_ ?_
 · exact Sub.cons (look_val rfl (by omega)) $ Sub.nil _
 · exact ⟨hM.to (by rw [tab_zero, List.append_nil]), Nat.zero_le _⟩
 rintro j vs w0 ⟨hM, hj⟩
 refine C.seq $ Kb $ Km rfl $ Kp rfl $ Ka $ C.cond' rfl (fun hC0 => ?_) (fun hC0 => ?_)
 ·
  have hjn : j < l[s] := by omega
  have e9 : (l[s] : Int) - 1 - j = ((l[s] - 1 - j : Nat) : Int) := by omega
  rw [e9]
  have hdv : Pf.code l s / 2 ^ (l[s] - 1 - j) ≤ Pf.code l s := Nat.div_le_self _ _
  have hpp := Nat.two_pow_pos (l[s] - 1 - j)
  have hp30 : 2 ^ (l[s] - 1 - j) ≤ 2 ^ 30 := Nat.pow_le_pow_right (by decide) (by omega)
  refine Kk $ C.seq $ C.block $ C.heldM hM [3] (by decide) (by kernel_rfl) fun wh1 hM hS => Kt 0 rfl (by kernel_rfl) hS (fun w' hM => Y.mv rfl) rfl $ Kt 1 rfl (by kernel_rfl) hS (fun w' hM => Y.mv rfl) rfl $ Kt 2 rfl (by kernel_rfl) hS (fun w' hM => Y.mv rfl) rfl $ Ku 3 rfl (by kernel_rfl) hS (Y.idx1 (enc := i64) (l := Pf.cdl l) (k := s) rfl rfl (by exact hM.sl 3 rfl) rfl (by omega) U76 (by kernel_rfl)) (fun w' hM => Y.idx1 (enc := i64) (l := Pf.cdl l) (k := s) rfl rfl (by exact hM.sl 0 rfl) rfl (by omega) U76 (by kernel_rfl)) rfl $ Kt 5 rfl (by kernel_rfl) hS (fun w' hM => Y.mv rfl) rfl $ Ku 4 rfl (by kernel_rfl) hS (Y.load rfl U3 rfl (RdL.cell (enc := i64) (l := Pf.cdl l) (j := s) (by exact hM.sl 3 rfl) (by omega))) (fun w' hM => Y.load rfl U3 rfl (RdL.cell (enc := i64) (l := Pf.cdl l) (j := s) (by exact hM.sl 0 rfl) (by omega))) rfl ?_
  rw [cdl_get]
  refine H.only 6 rfl (by kernel_rfl) $ E.call rfl rfl (rpower_ret (l[s] - 1 - j) _ (by omega)) ?_
  rintro _ w4 ⟨rfl, x4⟩
  have hM := hM.ext x4
  have hS := hM.pick [3] (by decide)
  refine H.back hS $ Kt 7 rfl (by kernel_rfl) hS (fun w' hM => Y.quo rfl rfl (by omega) (quoN (a := Pf.code l s) (b := 2 ^ (l[s] - 1 - j)) (by omega) (by omega))) rfl $ Kt 8 rfl (by kernel_rfl) hS (fun w' hM => Y.rem rfl rfl (by omega) (remN (a := Pf.code l s / 2 ^ (l[s] - 1 - j)) (b := 2))) rfl $ H.only 9 rfl (by kernel_rfl) $ E.call rfl rfl (rbits_ret b vs (B ++ tab j (bt (Pf.code l s) l[s])) (Pf.code l s / 2 ^ (l[s] - 1 - j) % 2) 1 _ (hM.pick [0, 1] (by decide)).sep (by omega) (by decide) (by rw [List.length_append, tab_len]; omega)) ?_
  rintro _ w1 ⟨vn, m⟩
  have hM := hM.calls [0, 1] (by decide) rfl (by simp) m
  rw [low1_mod, low_bt, List.append_assoc, ← tab_succ] at hM
  have hS := hM.pick [3] (by decide)
  refine H.back hS $ H.done (by kernel_rfl) $ X.outN $ X.next $ C.region $ Km rfl $ E.sub' rfl rfl (by omega) rfl $ Kn rfl $ E.nil $ X.again2 (j + 1) vn (Sub.cons (look_val rfl (by omega)) $ Sub.nil _) rfl ⟨hM, by omega⟩ (by omega)
 obtain rfl : j = l[s] := by omega
 refine C.exit $ X.exitT $ X.exitT $ X.outE $ end0 rfl ?_
 exact ⟨vs, by rw [hgd]; exact hM⟩
end Go.Proofs.YtajklleiifhipaaGreatDoor
namespace Go.Proofs.YtajklleiifhipaaGreatDoor
open Go.RowKit Sym
set_option maxHeartbeats 4000000 in
set_option maxRecDepth 4000 in
theorem rtokens_ret (b : Nat) (vo vl dl vt : Value) (B : List Bool) (L D ts : List Nat) (w : World) (hs : Sep w [Rg.blk b 93 [vo, i64 (fr B)], Rg.sl u8 5 vo (Df.pk B), Rg.sl i64 3 vl (nz L), Rg.sl i64 3 dl (nz D), Rg.sl i64 3 vt (nz ts)]) (htk : ∀ t ∈ ts, Df.Tok t) (hL : 286 ≤ L.length) (hD : 30 ≤ D.length) (hLm : L.length ≤ 4096) (hDm : D.length ≤ 4096) (hbL : ∀ n ∈ L, n ≤ 30) (hbD : ∀ n ∈ D, n ≤ 30) (hkL : Pf.kr L ≤ 1073741824) (hkD : Pf.kr D ≤ 1073741824) (hl : B.length + 100 * ts.length ≤ 274877906944) :
  Ret Tryz.prog 74 #[pv b, vt, vl, dl] w fun v w' => ∃ vn, M w (fpU [Rg.blk b 93 [vo, i64 (fr B)], Rg.sl u8 5 vo (Df.pk B), Rg.sl i64 3 vl (nz L), Rg.sl i64 3 dl (nz D), Rg.sl i64 3 vt (nz ts)]) w' [Rg.blk b 93 [vn, i64 (fr (B ++ Df.tbs L D ts ++ btv (Pf.code L 256) (L.getD 256 0)))], Rg.sl u8 5 vn (Df.pk (B ++ Df.tbs L D ts ++ btv (Pf.code L 256) (L.getD 256 0))), Rg.sl i64 3 vl (nz L), Rg.sl i64 3 dl (nz D), Rg.sl i64 3 vt (nz ts)] := by
 have hM := M.startS hs
 refine enter Tryz.func74 rfl (by kernel_rfl) Tryz.ntmps74 rfl $ Kb $ Km rfl $ ?_
 have hnt := nz_len ts
 refine E.call rfl rfl (rCodes_ret vl (nz L) _ (hM.sl 2 rfl)) ?_
 rintro _ wa ⟨vc, rfl, m⟩
 have hM := hM.call m
 try dsimp only [Za, Zb, Zc, Zd, repl] at hM
 rw [cdv_ok hbL hkL hLm] at hM
 try dsimp only [Za, Zb, Zc, Zd, repl] at hM
 refine Km rfl $ E.ext rfl rfl rfl $ E.ext rfl rfl rfl $ Kn rfl $ Kd rfl $ Km rfl $ E.call rfl rfl (rCodes_ret dl (nz D) _ (hM.sl 3 rfl)) ?_
 rintro _ wb ⟨dc, rfl, m⟩
 have hM := hM.call m
 try dsimp only [Za, Zb, Zc, Zd, repl] at hM
 rw [cdv_ok hbD hkD hDm] at hM
 try dsimp only [Za, Zb, Zc, Zd, repl] at hM
 refine Km rfl $ E.ext rfl rfl rfl $ E.ext rfl rfl rfl $ Kn rfl $ Kc rfl $ C.seq $ Kb $ Kc rfl $ C.block $ C.loop2 [(0, _), (1, _), (2, _), (3, _), (8, _), (10, _)] rfl (fun (i : Nat) (vs : Value) => [(12, i64 i)]) (fun (i : Nat) (vs : Value) w' => M w (fpU [Rg.blk b 93 [vo, i64 (fr B)], Rg.sl u8 5 vo (Df.pk B), Rg.sl i64 3 vl (nz L), Rg.sl i64 3 dl (nz D), Rg.sl i64 3 vt (nz ts)]) w' [Rg.blk b 93 [vs, i64 (fr (B ++ Df.tbs L D (ts.take i)))], Rg.sl u8 5 vs (Df.pk (B ++ Df.tbs L D (ts.take i))), Rg.sl i64 3 vl (nz L), Rg.sl i64 3 dl (nz D), Rg.sl i64 3 vt (nz ts), Rg.sl i64 3 vc (Pf.cdl L), Rg.sl i64 3 dc (Pf.cdl D)] ∧ i ≤ ts.length) (fun (i : Nat) (vs : Value) => ts.length - i) 0 vo ?_ ?_ ?_
 · exact S1 rfl
 · exact ⟨hM.to (by rw [List.take_zero, show Df.tbs L D [] = [] from rfl, List.append_nil]), Nat.zero_le _⟩
 rintro i vs w2 ⟨hM, hi⟩
 refine C.seq $ Kb $ Kf rfl $ E.lenv rfl (Rd.shape (hM.sl 4 rfl)) U76 rfl ?_
 rw [nz_len]
 refine Kp rfl $ Ka $ C.cond' rfl (fun hC0 => ?_) (fun hC0 => ?_)
 ·
  have hi' : i < ts.length := by omega
  obtain ⟨t, hte⟩ : ∃ t, t = ts[i] := ⟨_, rfl⟩
  have htt := htk ts[i] (List.getElem_mem hi')
  rw [← hte] at htt
  have hsn := Df.tbs_snoc (L := L) (D := D) hi'
  rw [← hte] at hsn
  have hBl : (B ++ Df.tbs L D (ts.take i)).length ≤ 274877906944 := by
   have := Df.tbs_len hbL hbD (ts := ts.take i) (fun x hx => htk x (List.mem_of_mem_take hx))
   rw [List.length_append]; rw [List.length_take] at this; omega
  obtain ⟨Bi, hBi⟩ : ∃ X, X = B ++ Df.tbs L D (ts.take i) := ⟨_, rfl⟩
  rw [← hBi] at hM hBl
  refine Kk $ C.cut1 [(0, _), (1, _), (2, _), (3, _), (8, _), (10, _), (12, _)] rfl (fun (vn : Value) => []) (fun (vn : Value) w' => M w (fpU [Rg.blk b 93 [vo, i64 (fr B)], Rg.sl u8 5 vo (Df.pk B), Rg.sl i64 3 vl (nz L), Rg.sl i64 3 dl (nz D), Rg.sl i64 3 vt (nz ts)]) w' [Rg.blk b 93 [vn, i64 (fr (B ++ Df.tbs L D (ts.take (i + 1))))], Rg.sl u8 5 vn (Df.pk (B ++ Df.tbs L D (ts.take (i + 1)))), Rg.sl i64 3 vl (nz L), Rg.sl i64 3 dl (nz D), Rg.sl i64 3 vt (nz ts), Rg.sl i64 3 vc (Pf.cdl L), Rg.sl i64 3 dc (Pf.cdl D)]) ?_ ?_
  ·
   refine C.block $ C.seq $ Kb $ Kf rfl $ E.get (k := i) rfl rfl (hM.sl 4 rfl) rfl (by omega) U76 (by kernel_rfl) U3 rfl rfl rfl ?_
   rw [nz_get hi', ← hte]
   refine Kp rfl $ Ka $ C.cond' rfl (fun hC1 => ?_) (fun hC1 => ?_)
   ·
    have h255 : t ≤ 255 := by omega
    refine Kb $ Kf rfl $ Km rfl $ E.get (k := i) rfl rfl (hM.sl 4 rfl) rfl (by omega) U76 (by kernel_rfl) U3 rfl rfl rfl ?_
    rw [nz_get hi', ← hte]
    refine Kf rfl $ E.call rfl rfl (rsymbol_ret b vs vl vc Bi L t _ (hM.pick [0, 1, 2, 5] (by decide)).sep (by omega) hbL hkL (by omega)) ?_
    rintro _ w1 ⟨vn1, m⟩
    have hM := hM.calls [0, 1, 2, 5] (by decide) rfl (by simp) m
    try dsimp only [Za, Zb, Zc, Zd, repl] at hM
    try dsimp only [Za, Zb, Zc, Zd, repl] at hM
    refine Ka $ C.exit $ X.exitT $ X.outE $ X.join1 vn1 (Sub.nil _) rfl (hM.to (by rw [hsn, Df.tb, if_pos h255, hBi, List.append_assoc]))
   have h255 : ¬ t ≤ 255 := by omega
   obtain ⟨h3, h258, hd1, hd2⟩ := htt.resolve_left h255
   obtain ⟨ga, gb, gc, gd⟩ := Df.lsy_spec h3 h258
   obtain ⟨ka, kb, kc⟩ := Df.dsy_spec hd1 hd2
   have hx1 := Df.lx_bd (Df.lsy (t / 65536)) (by omega)
   have hx2 := Df.dx_bd (Df.dsy (t % 65536)) (by omega)
   have htb : t ≤ 16973823 := by omega
   have hgL := Df.gd30 hbL (Df.lsy (t / 65536))
   have hgD := Df.gd30 hbD (Df.dsy (t % 65536))
   rw [Df.tb, if_neg h255] at hsn
   refine Kk $ Kb $ Kf rfl $ E.get (k := i) rfl rfl (hM.sl 4 rfl) rfl (by omega) U76 (by kernel_rfl) U3 rfl rfl rfl ?_
   rw [nz_get hi', ← hte]
   refine E.quo rfl rfl (by omega) (quoN (a := t) (b := 65536) (by omega) (by omega)) rfl $ E.call rfl rfl (rlengthSymbol_ret (t / 65536) _ h3 h258) ?_
   rintro _ w2 ⟨rfl, x2⟩
   have hM := hM.ext x2
   try dsimp only [Za, Zb, Zc, Zd, repl] at hM
   refine Km rfl $ E.ext rfl rfl rfl $ E.ext rfl rfl rfl $ E.ext rfl rfl rfl $ Kn rfl $ Kn rfl $ Kd rfl $ Kf rfl $ Kf rfl $ E.call rfl rfl (rsymbol_ret b vs vl vc Bi L (Df.lsy (t / 65536)) _ (hM.pick [0, 1, 2, 5] (by decide)).sep (by omega) hbL hkL (by omega)) ?_
   rintro _ w4 ⟨vn4, m⟩
   have hM := hM.calls [0, 1, 2, 5] (by decide) rfl (by simp) m
   try dsimp only [Za, Zb, Zc, Zd, repl] at hM
   try dsimp only [Za, Zb, Zc, Zd, repl] at hM
   refine Ke $ Kf rfl $ Km rfl $ E.call rfl rfl (rbits_ret b vn4 _ (t / 65536 - Df.lls (Df.lsy (t / 65536))) (Df.lxt (Df.lsy (t / 65536))) _ (hM.pick [0, 1] (by decide)).sep (by omega) (by omega) (by rw [List.length_append, btv_len]; omega)) ?_
   rintro _ w5 ⟨vn5, m⟩
   have hM := hM.calls [0, 1] (by decide) rfl (by simp) m
   try dsimp only [Za, Zb, Zc, Zd, repl] at hM
   try dsimp only [Za, Zb, Zc, Zd, repl] at hM
   refine Ke $ Kf rfl $ E.get (k := i) rfl rfl (hM.sl 4 rfl) rfl (by omega) U76 (by kernel_rfl) U3 rfl rfl rfl ?_
   rw [nz_get hi', ← hte]
   refine E.rem rfl rfl (by omega) (remN (a := t) (b := 65536)) rfl $ E.call rfl rfl (rdistanceSymbol_ret (t % 65536) _ hd1 hd2) ?_
   rintro _ w6 ⟨rfl, x6⟩
   have hM := hM.ext x6
   try dsimp only [Za, Zb, Zc, Zd, repl] at hM
   refine Km rfl $ E.ext rfl rfl rfl $ E.ext rfl rfl rfl $ E.ext rfl rfl rfl $ Kn rfl $ Kn rfl $ Kd rfl $ Kf rfl $ Kf rfl $ E.call rfl rfl (rsymbol_ret b vn5 dl dc _ D (Df.dsy (t % 65536)) _ (hM.pick [0, 1, 3, 6] (by decide)).sep (by omega) hbD hkD (by rw [List.length_append, List.length_append, btv_len, Df.low_len]; omega)) ?_
   rintro _ w8 ⟨vn8, m⟩
   have hM := hM.calls [0, 1, 3, 6] (by decide) rfl (by simp) m
   try dsimp only [Za, Zb, Zc, Zd, repl] at hM
   try dsimp only [Za, Zb, Zc, Zd, repl] at hM
   refine Ka $ C.region $ Kf rfl $ Km rfl $ E.call rfl rfl (rbits_ret b vn8 _ (t % 65536 - Df.dls (Df.dsy (t % 65536))) (Df.dxt (Df.dsy (t % 65536))) _ (hM.pick [0, 1] (by decide)).sep (by omega) (by omega) (by rw [List.length_append, List.length_append, List.length_append, btv_len, Df.low_len, btv_len]; omega)) ?_
   rintro _ w9 ⟨vn9, m⟩
   have hM := hM.calls [0, 1] (by decide) rfl (by simp) m
   try dsimp only [Za, Zb, Zc, Zd, repl] at hM
   try dsimp only [Za, Zb, Zc, Zd, repl] at hM
   refine E.nil $ X.outN $ X.join1 vn9 (Sub.nil _) rfl (hM.to (by rw [hsn, hBi]; simp only [List.append_assoc]))
  rintro vn w10 hM
  refine C.region $ Km rfl $ E.addN (a := i) (b := 1) rfl rfl (by omega) rfl $ Kn rfl $ E.nil $ X.again2 (i + 1) vn (S1 rfl) rfl ⟨hM, by omega⟩ (by omega)
 obtain rfl : i = ts.length := by omega
 rw [List.take_length] at hM
 have hBl := Df.tbs_len hbL hbD htk
 refine Kx $ C.region $ Kf rfl $ Km rfl $ E.call rfl rfl (rsymbol_ret b vs vl vc _ L 256 _ (hM.pick [0, 1, 2, 5] (by decide)).sep (by omega) hbL hkL (by rw [List.length_append]; omega)) ?_
 rintro _ w10 ⟨vn10, m⟩
 have hM := hM.calls [0, 1, 2, 5] (by decide) rfl (by simp) m
 try dsimp only [Za, Zb, Zc, Zd, repl] at hM
 try dsimp only [Za, Zb, Zc, Zd, repl] at hM
 refine E.nil $ end0 rfl ?_
 exact ⟨vn10, hM.pick [0, 1, 2, 3, 4] (by decide)⟩
end Go.Proofs.YtajklleiifhipaaGreatDoor
namespace Go.Proofs.YtajklleiifhipaaGreatDoor
open Go.RowKit Sym
set_option maxHeartbeats 2000000 in
set_option maxRecDepth 4000 in
theorem rcounts_ret (p : Value) (ts : List Nat) (w : World) (hr : RdL i64 w p (nz ts)) (htk : ∀ t ∈ ts, Df.Tok t) (hl : ts.length ≤ 1000000) :
  Ret Tryz.prog 108 #[p] w fun v w' => ∃ v2 v3, v = .tuple #[v2, v3] ∧ M w Nn w' [Rg.sl i64 3 v2 (nz (Df.fql ts)), Rg.sl i64 3 v3 (nz (Df.fqd ts))] := by
 have hM := M.start w
 refine enter Tryz.func108 rfl (by kernel_rfl) Tryz.ntmps108 rfl $ Kb $ Kn rfl $ Kd rfl $ E.makeM (by_ := 8) (enc := i64) (0 : Int) hM (n := 286) rfl U76 (by kernel_rfl) rfl (by decide) (by decide) rfl ?_
 intro v10 w0 hM
 try dsimp only [Za, Zb, Zc, Zd, repl] at hM
 refine Kd rfl $ E.makeM (by_ := 8) (enc := i64) (0 : Int) hM (n := 30) rfl U76 (by kernel_rfl) rfl (by decide) (by decide) rfl ?_
 intro v11 w1 hM
 try dsimp only [Za, Zb, Zc, Zd, repl] at hM
 rw [← nz_rep, ← nz_rep] at hM
 refine Kd rfl $ Km rfl $ E.idx1 (k := 256) rfl rfl (hM.sl 0 rfl) rfl (by rw [nz_len, List.length_replicate]; omega) U76 (by kernel_rfl) rfl $ E.storeL (enc := i64) 0 ((1 : Nat) : Int) hM rfl rfl rfl (by kernel_rfl) rfl rfl (by rw [nz_len, List.length_replicate]; omega) ?_
 intro w2 hM
 try dsimp only [Za, Zb, Zc, Zd, repl] at hM
 rw [nz_set] at hM
 refine Ka $ C.seq $ Kb $ Kc rfl $ C.block $ C.loop1 [(0, _), (4, _), (5, _)] rfl (fun (i : Nat) => [(6, i64 i)]) (fun (i : Nat) w' => M w (Nn) w' [Rg.sl i64 3 v10 (nz (Df.fql (ts.take i))), Rg.sl i64 3 v11 (nz (Df.fqd (ts.take i)))] ∧ i ≤ ts.length) (fun (i : Nat) => ts.length - i) 0 ?_ ?_ ?_
 · exact S1 rfl
 · exact ⟨hM, Nat.zero_le _⟩
 rintro i w3 ⟨hM, hi⟩
 refine C.seq $ Kb $ Kf rfl $ E.lenv rfl (Rd.shape (hM.arg0 hr)) U76 rfl ?_
 rw [nz_len]
 refine Kp rfl $ Ka $ C.cond' rfl (fun hC0 => ?_) (fun hC0 => ?_)
 ·
  have hi' : i < ts.length := by omega
  obtain ⟨t, hte⟩ : ∃ t, t = ts[i] := ⟨_, rfl⟩
  have htt := htk ts[i] (List.getElem_mem hi')
  have hsn := Df.fql_snoc hi'
  have hln := Df.fql_len (ts.take i)
  have hdn := Df.fqd_len (ts.take i)
  have hlb := Df.fql_bd (ts.take i)
  have hdb := Df.fqd_bd (ts.take i)
  have htl : (ts.take i).length ≤ 1000000 := by rw [List.length_take]; omega
  rw [← hte] at htt hsn
  refine Kk $ C.cut0 [(0, _), (4, _), (5, _), (6, _)] rfl [] (fun w' => M w (Nn) w' [Rg.sl i64 3 v10 (nz (Df.fql (ts.take (i + 1)))), Rg.sl i64 3 v11 (nz (Df.fqd (ts.take (i + 1))))]) ?_ ?_
  ·
   refine C.block $ C.seq $ Kb $ Kf rfl $ E.get (k := i) rfl rfl (hM.arg0 hr) rfl (by rw [nz_len]; omega) U76 (by kernel_rfl) U3 rfl rfl rfl ?_
   rw [nz_get hi', ← hte]
   refine Kp rfl $ Ka $ C.cond' rfl (fun hC1 => ?_) (fun hC1 => ?_)
   ·
    have h255 : t ≤ 255 := by omega
    rw [Df.lsm, if_pos h255] at hsn
    have hlt := Df.fqd_lit hi' (by rw [← hte]; exact h255)
    refine Kb $ Kf rfl $ Km rfl $ E.get (k := i) rfl rfl (hM.arg0 hr) rfl (by rw [nz_len]; omega) U76 (by kernel_rfl) U3 rfl rfl rfl ?_
    rw [nz_get hi', ← hte]
    refine E.get (k := t) rfl rfl (hM.sl 0 rfl) rfl (by rw [nz_len]; omega) U76 (by kernel_rfl) U3 rfl rfl rfl ?_
    rw [nz_gd]
    refine E.addN (a := (Df.fql (ts.take i)).getD t 0) (b := 1) rfl rfl (by have := gdB hlb (t); omega) rfl $ E.idx1 (k := t) rfl rfl (hM.sl 0 rfl) rfl (by rw [nz_len]; omega) U76 (by kernel_rfl) rfl $ E.storeL (enc := i64) 0 (((Df.fql (ts.take i)).getD t 0 + 1 : Nat) : Int) hM rfl rfl rfl (by kernel_rfl) rfl rfl (by rw [nz_len]; omega) ?_
    intro w4 hM
    try dsimp only [Za, Zb, Zc, Zd, repl] at hM
    rw [Df.nz_bmp] at hM
    refine Ka $ C.exit $ X.exitT $ X.outE $ X.join0  (Sub.nil _) rfl (hM.to (by rw [hsn, hlt]))
   have h255 : ¬ t ≤ 255 := by omega
   obtain ⟨h3, h258, hd1, hd2⟩ := htt.resolve_left h255
   obtain ⟨ga, gb, gc, gd⟩ := Df.lsy_spec h3 h258
   obtain ⟨ka, kb, kc⟩ := Df.dsy_spec hd1 hd2
   have htb : t ≤ 16973823 := by omega
   have hmt := Df.fqd_mat hi' (by rw [← hte]; exact h255)
   rw [← hte] at hmt
   rw [Df.lsm, if_neg h255] at hsn
   refine Kk $ Kb $ Kf rfl $ E.get (k := i) rfl rfl (hM.arg0 hr) rfl (by rw [nz_len]; omega) U76 (by kernel_rfl) U3 rfl rfl rfl ?_
   rw [nz_get hi', ← hte]
   refine E.quo rfl rfl (by omega) (quoN (a := t) (b := 65536) (by omega) (by omega)) rfl $ E.call rfl rfl (rlengthSymbol_ret (t / 65536) _ h3 h258) ?_
   rintro _ w2 ⟨rfl, x2⟩
   have hM := hM.ext x2
   try dsimp only [Za, Zb, Zc, Zd, repl] at hM
   refine Km rfl $ E.ext rfl rfl rfl $ E.ext rfl rfl rfl $ E.ext rfl rfl rfl $ Kn rfl $ Kn rfl $ Kd rfl $ Kf rfl $ E.get (k := (Df.lsy (t / 65536))) rfl rfl (hM.sl 0 rfl) rfl (by rw [nz_len]; omega) U76 (by kernel_rfl) U3 rfl rfl rfl ?_
   rw [nz_gd]
   refine E.addN (a := (Df.fql (ts.take i)).getD (Df.lsy (t / 65536)) 0) (b := 1) rfl rfl (by have := gdB hlb ((Df.lsy (t / 65536))); omega) rfl $ E.idx1 (k := (Df.lsy (t / 65536))) rfl rfl (hM.sl 0 rfl) rfl (by rw [nz_len]; omega) U76 (by kernel_rfl) rfl $ E.storeL (enc := i64) 0 (((Df.fql (ts.take i)).getD (Df.lsy (t / 65536)) 0 + 1 : Nat) : Int) hM rfl rfl rfl (by kernel_rfl) rfl rfl (by rw [nz_len]; omega) ?_
   intro w6 hM
   try dsimp only [Za, Zb, Zc, Zd, repl] at hM
   rw [Df.nz_bmp] at hM
   refine Ke $ Kf rfl $ E.get (k := i) rfl rfl (hM.arg0 hr) rfl (by rw [nz_len]; omega) U76 (by kernel_rfl) U3 rfl rfl rfl ?_
   rw [nz_get hi', ← hte]
   refine E.rem rfl rfl (by omega) (remN (a := t) (b := 65536)) rfl $ E.call rfl rfl (rdistanceSymbol_ret (t % 65536) _ hd1 hd2) ?_
   rintro _ w3 ⟨rfl, x3⟩
   have hM := hM.ext x3
   try dsimp only [Za, Zb, Zc, Zd, repl] at hM
   refine Km rfl $ E.ext rfl rfl rfl $ E.ext rfl rfl rfl $ E.ext rfl rfl rfl $ Kc rfl $ C.region $ Kf rfl $ E.get (k := (Df.dsy (t % 65536))) rfl rfl (hM.sl 1 rfl) rfl (by rw [nz_len]; omega) U76 (by kernel_rfl) U3 rfl rfl rfl ?_
   rw [nz_gd]
   refine E.addN (a := (Df.fqd (ts.take i)).getD (Df.dsy (t % 65536)) 0) (b := 1) rfl rfl (by have := gdB hdb ((Df.dsy (t % 65536))); omega) rfl $ E.idx1 (k := (Df.dsy (t % 65536))) rfl rfl (hM.sl 1 rfl) rfl (by rw [nz_len]; omega) U76 (by kernel_rfl) rfl $ E.storeL (enc := i64) 1 (((Df.fqd (ts.take i)).getD (Df.dsy (t % 65536)) 0 + 1 : Nat) : Int) hM rfl rfl rfl (by kernel_rfl) rfl rfl (by rw [nz_len]; omega) ?_
   intro w8 hM
   try dsimp only [Za, Zb, Zc, Zd, repl] at hM
   rw [Df.nz_bmp] at hM
   refine E.nil $ X.outN $ X.join0  (Sub.nil _) rfl (hM.to (by rw [hsn, hmt]))
  rintro  w9 hM
  refine C.region $ Km rfl $ E.addN (a := i) (b := 1) rfl rfl (by omega) rfl $ Kn rfl $ E.nil $ X.again1 (i + 1) (S1 rfl) rfl ⟨hM, by omega⟩ (by omega)
 obtain rfl : i = ts.length := by omega
 rw [List.take_length] at hM
 refine Kx $ Kb $ Kf rfl $ Kn rfl $ Kc rfl $ C.ret $ ret2 rfl rfl rfl ?_
 exact ⟨_, _, rfl, hM⟩
namespace Df
def ctf (l : List Nat) (n : Nat) : Nat → Nat
 | 0 => n
 | k + 1 => if n ≤ k ∧ 0 < l.getD k 0 then k + 1 else ctf l n k
theorem ctf_low (l : List Nat) (n : Nat) : ∀ j, j ≤ n → ctf l n j = n
 | 0, _ => rfl
 | j + 1, h => by rw [ctf, if_neg (by omega), ctf_low l n j (by omega)]
theorem ctf_self (l : List Nat) (k : Nat) : ctf l (k + 1) (k + 1) = k + 1 := ctf_low l (k + 1) (k + 1) (Nat.le_refl _)
theorem ctf_ctg (l : List Nat) (n : Nat) : ∀ k, n ≤ k → ctf l n k = ctg l n k
 | 0, h => by
  have : n = 0 := by omega
  subst this; rfl
 | k + 1, h => by
  rw [ctf, ctg]
  by_cases c : n ≤ k ∧ 0 < l.getD k 0
  · rw [if_pos c, if_neg (by omega)]
  rw [if_neg c]
  by_cases d : n ≤ k
  · rw [if_pos (by omega), ctf_ctg l n k d]
  have : n = k + 1 := by omega
  subst this
  rw [if_neg (by omega)]
  have : ∀ j, j ≤ k + 1 → ctf l (k + 1) j = k + 1 := by
   intro j
   induction j with
   | zero => intro _; rfl
   | succ j ih => intro hj; rw [ctf, if_neg (by omega), ih (by omega)]
  exact this k (by omega)
end Df
theorem rcut_ret (p : Value) (l : List Nat) (n : Nat) (w : World) (hr : RdL i64 w p (nz l)) (hn : n ≤ l.length) :
  Ret Tryz.prog 110 #[p, i64 n] w fun v w' => v = i64 (Df.ctn l n : Int) ∧ Ext w w' := by
 have hM := M.start w
 refine enter Tryz.func110 rfl (by kernel_rfl) Tryz.ntmps110 rfl $ Kb $ Kc rfl $ C.seq $ Kb $ Km rfl $ Kc rfl $ C.block $ ?_
 have hle := Rd.le hr
 have hnl := nz_len l
 refine C.loop1 [(0, _)] rfl (fun (i : Nat) => [(1, i64 (Df.ctf l n i : Int)), (5, i64 i)]) (fun (i : Nat) w' => M w (Nn) w' [] ∧ n ≤ i ∧ i ≤ l.length) (fun (i : Nat) => l.length - i) n ?_ ?_ ?_
 · exact Sub.cons (look_val rfl (by rw [show Df.ctf l n n = n from (by cases n with | zero => rfl | succ k => exact Df.ctf_self l k)])) $ S1 rfl
 · exact ⟨hM, Nat.le_refl _, hn⟩
 rintro i w0 ⟨hM, hi1, hi2⟩
 refine C.seq $ Kb $ Kf rfl $ E.lenv rfl (Rd.shape (hM.arg0 hr)) U76 rfl ?_
 rw [nz_len]
 refine Kp rfl $ Ka $ C.cond' rfl (fun hC0 => ?_) (fun hC0 => ?_)
 ·
  refine Kk $ C.cut0 [(0, _), (5, _)] rfl [(1, i64 (Df.ctf l n (i + 1) : Int))] (fun w' => M w (Nn) w' []) ?_ ?_
  ·
   refine C.block $ Kb $ Kf rfl $ E.get (k := i) rfl rfl (hM.arg0 hr) rfl (by omega) U76 (by kernel_rfl) U3 rfl rfl rfl ?_
   rw [nz_gd]
   refine Kp rfl $ Ka $ C.cond' rfl (fun hC1 => ?_) (fun hC1 => ?_)
   ·
    refine C.region $ Km rfl $ E.addN (a := i) (b := 1) rfl rfl (by omega) rfl $ Kn rfl $ E.nil $ X.outN $ X.join0  (Sub.cons (look_val rfl (by rw [Df.ctf, if_pos (by omega)])) $ Sub.nil _) rfl hM
   refine C.skip $ X.outN $ X.join0  (Sub.cons (look_val rfl (by rw [Df.ctf, if_neg (by omega)])) $ Sub.nil _) rfl hM
  rintro  w1 hM
  refine C.region $ Km rfl $ E.addN (a := i) (b := 1) rfl rfl (by omega) rfl $ Kn rfl $ E.nil $ X.again1 (i + 1) (Sub.cons rfl $ S1 rfl) rfl ⟨hM, by omega, by omega⟩ (by omega)
 obtain rfl : i = l.length := by omega
 refine Kx $ Kb $ Km rfl $ Kc rfl $ C.ret $ ret1 rfl rfl ?_
 exact ⟨by rw [Df.ctf_ctg l n _ hi1]; rfl, hM.toExt⟩
end Go.Proofs.YtajklleiifhipaaGreatDoor
namespace Go.Proofs.YtajklleiifhipaaGreatDoor
open Go.RowKit Sym
theorem elem_Tref34_item : Elem Tryz.prog 137 3 24 := elem_of (z := .agg #[.int .i64 0, .int .i64 0, .int .i64 0]) (by kernel_rfl) rfl (by decide)
open Df (Stp)
abbrev esr (x : Stp) : List Value := [i64 (x.1 : Int), i64 (x.2.2 : Int), i64 (x.2.1 : Int)]
theorem esr_one (a : Stp) : ∀ x ∈ esr a, x.oneCell' = true := ones rfl $ ones rfl $ ones rfl $ ones_nil
namespace Df
def rs1 (x m : Nat) : List Stp := if x = 0 then zer m else eqr x m
def rs3 (x m : Nat) : List Stp := if x = 0 then List.replicate m (0, 0, 0) else eqr x m
theorem rend_one {l : List Nat} {a : Nat} (h : a < l.length) : ren l (l.getD a 0) (l.length - (a + 1)) (a + 1) = rend l a := by
 unfold rend
 obtain ⟨f, hf⟩ : ∃ f, l.length - a = f + 1 := ⟨l.length - a - 1, by omega⟩
 rw [hf, ren, if_pos ⟨h, rfl⟩, show l.length - (a + 1) = f by omega]
theorem rs1_big {x m : Nat} (h : x = 0 ∧ 11 ≤ m) : rs1 x m = (18, min m 138 - 11, 7) :: rs1 x (m - min m 138) := by unfold rs1; rw [if_pos h.1, if_pos h.1, zer_big h.2]
theorem rs1_mid {x m : Nat} (h : ¬ (x = 0 ∧ 11 ≤ m)) (h2 : x = 0 ∧ 3 ≤ m) : rs1 x m = (17, m - 3, 3) :: rs3 x 0 := by unfold rs1 rs3; rw [if_pos h2.1, if_pos h2.1, zer_mid (by omega) h2.2]; rfl
theorem rs1_few {x m : Nat} (h : ¬ (x = 0 ∧ 3 ≤ m)) : rs1 x m = rs3 x m := by
 unfold rs1 rs3
 by_cases c : x = 0
 · rw [if_pos c, if_pos c, zer_few (by omega)]
 rw [if_neg c, if_neg c]
theorem rs3_big {x m : Nat} (h : 0 < x ∧ 3 ≤ m) : rs3 x m = (16, min m 6 - 3, 2) :: rs3 x (m - min m 6) := by unfold rs3; rw [if_neg (by omega), if_neg (by omega), eqr_big h.2]
theorem rs3_few {x m : Nat} (h : ¬ (0 < x ∧ 3 ≤ m)) : rs3 x m = List.replicate m (x, 0, 0) := by
 unfold rs3
 by_cases c : x = 0
 · rw [if_pos c, c]
 rw [if_neg c, eqr_few (by omega)]
theorem sq_rs {l : List Nat} {a : Nat} (h : a < l.length) : sq l a = (if 0 < l.getD a 0 then (l.getD a 0, 0, 0) :: rs1 (l.getD a 0) (rend l a - a - 1) else rs1 (l.getD a 0) (rend l a - a)) ++ sq l (rend l a) := by
 rw [sq_on h]
 by_cases c : l.getD a 0 = 0
 · rw [if_pos c, if_neg (by omega), rs1, if_pos c]
 rw [if_neg c, if_pos (by omega), rs1, if_neg c]; rfl
end Df
set_option maxHeartbeats 4000000 in
set_option maxRecDepth 4000 in
theorem runs_ret (p : Value) (l : List Nat) (w : World) (hr : RdL i64 w p (nz l)) (hl : l.length ≤ 1000) :
  Ret Tryz.prog 111 #[p] w fun v w' => M w Nn w' [Rg.slF esr 3 137 v (Df.sq l 0)] := by
 have hM := M.start w
 refine enter Tryz.func111 rfl (by kernel_rfl) Tryz.ntmps111 rfl $ Kb $ Kd rfl $ Kd rfl $ Kc rfl $ C.seq $ C.block $ ?_
 have hM := hM.nilF esr 3 137
 have hnl := nz_len l
 refine C.loop3 [(0, _)] rfl (fun (a : Nat) (ys : (List Stp)) (vo : Value) => [(3, vo), (4, i64 a)]) (fun (a : Nat) (ys : (List Stp)) (vo : Value) w' => M w (Nn) w' [Rg.slF esr 3 137 vo ys] ∧ a ≤ l.length ∧ Df.sq l 0 = ys ++ Df.sq l a ∧ ys.length ≤ a) (fun (a : Nat) (ys : (List Stp)) (vo : Value) => l.length - a) 0 [] (.slice none 0 0) ?_ ?_ ?_
 · exact Sub.cons rfl $ S1 rfl
 · exact ⟨hM, Nat.zero_le _, rfl, Nat.le_refl _⟩
 rintro a ys vo w0 ⟨hM, ha, hsq, hyl⟩
 refine C.seq $ Kb $ Kf rfl $ E.lenv rfl (Rd.shape (hM.arg0 hr)) U76 rfl ?_
 rw [nz_len]
 refine Kp rfl $ Ka $ C.cond' rfl (fun hC0 => ?_) (fun hC0 => ?_)
 ·
  have ha' : a < l.length := by omega
  rw [Df.sq_rs ha'] at hsq
  obtain ⟨hr1, hr2, hr3⟩ := Df.rend_spec ha'
  refine Kk $ C.block $ Kb $ Kc rfl $ C.seq $ C.block $ C.loop1 [(0, _), (3, _), (4, _)] rfl (fun (n : Nat) => [(5, i64 n)]) (fun (n : Nat) w' => M w (Nn) w' [Rg.slF esr 3 137 vo ys] ∧ 1 ≤ n ∧ a + n ≤ l.length ∧ Df.ren l (l.getD a 0) (l.length - (a + n)) (a + n) = Df.rend l a) (fun (n : Nat) => l.length - (a + n)) 1 ?_ ?_ ?_
  · exact S1 rfl
  · exact ⟨hM, Nat.le_refl _, ha', Df.rend_one ha'⟩
  rintro n w1 ⟨hM, hn1, hn2, hn⟩
  refine C.seq $ C.chainQ [(0, _), (3, _), (4, _), (5, _)] rfl [(31, .bool (decide (a + n < l.length ∧ l.getD (a + n) 0 = l.getD a 0)))] ?_ ?_
  ·
   refine C.drawn (by kernel_rfl) (by kernel_rfl) $ Q.mv rfl rfl $ Q.mv rfl rfl $ Q.addN (a := a) (b := n) rfl rfl (by omega) rfl $ Q.mv rfl rfl $ Q.lenv rfl (Rd.shape (hM.arg0 hr)) U76 rfl ?_
   rw [nz_len]
   refine Q.bin rfl rfl rfl rfl $ Q.mv rfl rfl $ Q.split 19 rfl (fun g19 => ?_) (fun g19 => ?_)
   ·
    try simp only [Ya, Yb, Yc, Yd, Ye, Yf] at g19
    refine Q.on rfl rfl (Q.mv rfl rfl ?_)
    refine Q.on rfl rfl (Q.mv rfl rfl ?_)
    refine Q.on rfl rfl (Q.mv rfl rfl ?_)
    refine Q.on rfl rfl (Q.addN (a := a) (b := n) rfl rfl (by omega) rfl ?_)
    refine Q.on rfl rfl (Q.idx1 (k := a + n) rfl rfl (hM.arg0 hr) rfl (by omega) U76 (by kernel_rfl) rfl ?_)
    refine Q.on rfl rfl (Q.load rfl U3 rfl ((hM.arg0 hr).cellA rfl (by omega)) rfl ?_)
    rw [nz_gd]
    refine Q.on rfl rfl (Q.mv rfl rfl ?_)
    refine Q.on rfl rfl (Q.mv rfl rfl ?_)
    refine Q.on rfl rfl (Q.idx1 (k := a) rfl rfl (hM.arg0 hr) rfl (by omega) U76 (by kernel_rfl) rfl ?_)
    refine Q.on rfl rfl (Q.load rfl U3 rfl ((hM.arg0 hr).cellA rfl (by omega)) rfl ?_)
    rw [nz_gd]
    refine Q.on rfl rfl (Q.bin rfl rfl rfl rfl ?_)
    refine Q.pick rfl rfl rfl $ Q.nil $ fun w2 hx2 => X.join0 (Sub.cons (by exact leaf_d (by omega)) $ Sub.nil _) rfl hx2
   try simp only [Ya, Yb, Yc, Yd, Ye, Yf] at g19
   refine Q.off rfl rfl rfl rfl $ Q.off rfl rfl rfl rfl $ Q.off rfl rfl rfl rfl $ Q.off rfl rfl rfl rfl $ Q.off rfl rfl rfl rfl $ Q.off rfl rfl rfl rfl $ Q.off rfl rfl rfl rfl $ Q.off rfl rfl rfl rfl $ Q.off rfl rfl rfl rfl $ Q.off rfl rfl rfl rfl $ Q.off rfl rfl rfl rfl $ Q.pick rfl rfl rfl $ Q.nil $ fun w3 hx3 => X.join0 (Sub.cons (by exact leaf_f (by omega)) $ Sub.nil _) rfl hx3
  intro w4 hx4
  have hM := hM.ext hx4
  refine C.cond' rfl (fun hC1 => ?_) (fun hC1 => ?_)
  ·
   have hn' : Df.ren l (l.getD a 0) (l.length - (a + (n + 1))) (a + (n + 1)) = Df.rend l a := by
    rw [← hn, show l.length - (a + n) = l.length - (a + (n + 1)) + 1 by omega, Df.ren, if_pos hC1]; rfl
   refine Kk $ C.block $ C.region $ Km rfl $ E.addN (a := n) (b := 1) rfl rfl (by omega) rfl $ Kn rfl $ E.nil $ X.outN $ X.again1 (n + 1) (S1 rfl) rfl ⟨hM, by omega, by omega, hn'⟩ (by omega)
  have hee : Df.rend l a = a + n := by
   rw [← hn]
   cases h : l.length - (a + n) with
   | zero => rfl
   | succ f => rw [Df.ren, if_neg hC1]
  obtain ⟨e, hem⟩ : ∃ e, e = a + n := ⟨_, rfl⟩
  rw [hee, ← hem] at hsq hr1 hr2 hr3
  rw [show e - a = n by omega] at hsq
  have hle := hr3 (e - 1) (by omega) (by omega)
  refine Kx $ Kb $ Kf rfl $ E.addN (a := a) (b := n) rfl rfl (by omega) rfl ?_
  rw [← hem]
  refine Kd rfl $ Kf rfl $ E.subN (a := e) (b := 1) rfl rfl (by omega) rfl $ E.get (k := e - 1) rfl rfl (hM.arg0 hr) rfl (by omega) U76 (by kernel_rfl) U3 rfl rfl rfl ?_
  rw [nz_gd, hle]
  refine Kc rfl $ C.cut3 [(0, _), (4, _), (6, _)] rfl (fun (m : Nat) (ys : (List Stp)) (vo : Value) => [(3, vo), (5, i64 m)]) (fun (m : Nat) (ys : (List Stp)) (vo : Value) w' => M w (Nn) w' [Rg.slF esr 3 137 vo ys] ∧ Df.sq l 0 = ys ++ (Df.rs1 (l.getD a 0) m ++ Df.sq l e) ∧ ys.length + m ≤ e) ?_ ?_
  ·
   refine Kb $ Km rfl $ Kp rfl $ Ka $ C.cond' rfl (fun hC2 => ?_) (fun hC2 => ?_)
   ·
    rw [if_pos (by omega)] at hsq
    refine Kb $ Kf rfl $ E.buildC (cs := [_, _, _]) [.int .i64 0, .int .i64 0, .int .i64 0] [0] rfl rfl (by kernel_rfl) rfl $ E.pushFM 0 (l.getD a 0, 0, 0) hM rfl rfl rfl Tryz.underlying134 elem_Tref34_item rfl (by decide) (esr_one _) (by omega) (by omega) (by simp) rfl rfl ?_
    intro v48 u48 w5 hM
    refine Kc rfl $ C.region $ Km rfl $ E.subN (a := n) (b := 1) rfl rfl (by omega) rfl $ Kn rfl $ E.nil $ X.join3 (n - 1) (ys ++ [(l.getD a 0, 0, 0)]) v48 (Sub.cons rfl $ S1 rfl) rfl ⟨hM, by rw [hsq, List.append_assoc]; rfl, by rw [List.length_append, List.length_singleton]; omega⟩
   rw [if_neg (by omega)] at hsq
   refine C.skip $ X.join3 n ys vo (Sub.cons rfl $ S1 rfl) rfl ⟨hM, hsq, by omega⟩
  rintro m ys vo w6 ⟨hM, hsq, hyl⟩
  refine C.seq $ C.block $ C.loop3 [(0, _), (4, _), (6, _)] rfl (fun (m : Nat) (ys : (List Stp)) (vo : Value) => [(3, vo), (5, i64 m)]) (fun (m : Nat) (ys : (List Stp)) (vo : Value) w' => M w (Nn) w' [Rg.slF esr 3 137 vo ys] ∧ Df.sq l 0 = ys ++ (Df.rs1 (l.getD a 0) m ++ Df.sq l e) ∧ ys.length + m ≤ e) (fun (m : Nat) (ys : (List Stp)) (vo : Value) => m) m ys vo ?_ ?_ ?_
  · exact Sub.cons rfl $ S1 rfl
  · exact ⟨hM, hsq, hyl⟩
  rintro m ys vo w7 ⟨hM, hsq, hyl⟩
  refine C.seq $ C.chainE [(0, _), (3, _), (4, _), (5, _), (6, _)] rfl [(56, .bool (decide ((l.getD a 0) = 0 ∧ 11 ≤ m)))] ?_ ?_
  ·
   refine C.region $ Km rfl $ Kp rfl $ Km rfl $ E.split 53 rfl (fun g53 => ?_) (fun g53 => ?_)
   ·
    try simp only [Ya, Yb, Yc, Yd, Ye, Yf] at g53
    refine Ko rfl $ Km rfl $ Ko rfl $ Kp rfl $ Kr rfl $ E.nil $ X.join0 (Sub.cons (by exact leaf_d (by omega)) $ Sub.nil _) rfl rfl
   try simp only [Ya, Yb, Yc, Yd, Ye, Yf] at g53
   refine Kq rfl $ Kq rfl $ Kr rfl $ E.nil $ X.join0 (Sub.cons (by exact leaf_f (by omega)) $ Sub.nil _) rfl rfl
  refine C.cond' rfl (fun hC3 => ?_) (fun hC3 => ?_)
  ·
   rw [Df.rs1_big hC3] at hsq
   refine Kk $ C.block $ Kb $ Km rfl $ E.min2 rfl rfl rfl ?_
   rw [show min (m : Int) 138 = ((min m 138 : Nat) : Int) by omega]
   refine Kd rfl $ Kf rfl $ E.subN (a := min m 138) (b := 11) rfl rfl (by omega) rfl $ E.buildC (cs := [_, _, _]) [.int .i64 0, .int .i64 0, .int .i64 0] [0, 1, 2] rfl rfl (by kernel_rfl) rfl $ E.pushFM 0 (18, min m 138 - 11, 7) hM rfl rfl rfl Tryz.underlying134 elem_Tref34_item rfl (by decide) (esr_one _) (by omega) (by omega) (by simp) rfl rfl ?_
   intro v64 u64 w8 hM
   refine Kc rfl $ C.region $ Kf rfl $ E.subN (a := m) (b := min m 138) rfl rfl (by omega) rfl $ Kn rfl $ E.nil $ X.outN $ X.again3 (m - min m 138) (ys ++ [(18, min m 138 - 11, 7)]) v64 (Sub.cons rfl $ S1 rfl) rfl ⟨hM, by rw [hsq, List.append_assoc]; rfl, by rw [List.length_append, List.length_singleton]; omega⟩ (by omega)
  refine Kx $ C.cut3 [(0, _), (4, _), (6, _)] rfl (fun (m : Nat) (ys : (List Stp)) (vo : Value) => [(3, vo), (5, i64 m)]) (fun (m : Nat) (ys : (List Stp)) (vo : Value) w' => M w (Nn) w' [Rg.slF esr 3 137 vo ys] ∧ Df.sq l 0 = ys ++ (Df.rs3 (l.getD a 0) m ++ Df.sq l e) ∧ ys.length + m ≤ e) ?_ ?_
  ·
   refine C.chainE [(0, _), (3, _), (4, _), (5, _), (6, _)] rfl [(73, .bool (decide ((l.getD a 0) = 0 ∧ 3 ≤ m)))] ?_ ?_
   ·
    refine C.region $ Km rfl $ Kp rfl $ Km rfl $ E.split 70 rfl (fun g70 => ?_) (fun g70 => ?_)
    ·
     try simp only [Ya, Yb, Yc, Yd, Ye, Yf] at g70
     refine Ko rfl $ Km rfl $ Ko rfl $ Kp rfl $ Kr rfl $ E.nil $ X.join0 (Sub.cons (by exact leaf_d (by omega)) $ Sub.nil _) rfl rfl
    try simp only [Ya, Yb, Yc, Yd, Ye, Yf] at g70
    refine Kq rfl $ Kq rfl $ Kr rfl $ E.nil $ X.join0 (Sub.cons (by exact leaf_f (by omega)) $ Sub.nil _) rfl rfl
   refine C.cond' rfl (fun hC4 => ?_) (fun hC4 => ?_)
   ·
    rw [Df.rs1_mid hC3 hC4] at hsq
    refine Kb $ Kf rfl $ E.subN (a := m) (b := 3) rfl rfl (by omega) rfl $ E.buildC (cs := [_, _, _]) [.int .i64 0, .int .i64 0, .int .i64 0] [0, 1, 2] rfl rfl (by kernel_rfl) rfl $ E.pushFM 0 (17, m - 3, 3) hM rfl rfl rfl Tryz.underlying134 elem_Tref34_item rfl (by decide) (esr_one _) (by omega) (by omega) (by simp) rfl rfl ?_
    intro v79 u79 w9 hM
    refine Kc rfl $ C.region $ Kn rfl $ E.nil $ X.join3 0 (ys ++ [(17, m - 3, 3)]) v79 (Sub.cons rfl $ S1 rfl) rfl ⟨hM, by rw [hsq, List.append_assoc]; rfl, by rw [List.length_append, List.length_singleton]; omega⟩
   rw [Df.rs1_few hC4] at hsq
   refine C.skip $ X.join3 m ys vo (Sub.cons rfl $ S1 rfl) rfl ⟨hM, hsq, hyl⟩
  rintro m ys vo w10 ⟨hM, hsq, hyl⟩
  refine C.seq $ C.block $ C.loop3 [(0, _), (4, _), (6, _)] rfl (fun (m : Nat) (ys : (List Stp)) (vo : Value) => [(3, vo), (5, i64 m)]) (fun (m : Nat) (ys : (List Stp)) (vo : Value) w' => M w (Nn) w' [Rg.slF esr 3 137 vo ys] ∧ Df.sq l 0 = ys ++ (Df.rs3 (l.getD a 0) m ++ Df.sq l e) ∧ ys.length + m ≤ e) (fun (m : Nat) (ys : (List Stp)) (vo : Value) => m) m ys vo ?_ ?_ ?_
  · exact Sub.cons rfl $ S1 rfl
  · exact ⟨hM, hsq, hyl⟩
  rintro m ys vo w11 ⟨hM, hsq, hyl⟩
  refine C.seq $ C.chainE [(0, _), (3, _), (4, _), (5, _), (6, _)] rfl [(85, .bool (decide (0 < (l.getD a 0) ∧ 3 ≤ m)))] ?_ ?_
  ·
   refine C.region $ Km rfl $ Kp rfl $ Km rfl $ E.split 82 rfl (fun g82 => ?_) (fun g82 => ?_)
   ·
    try simp only [Ya, Yb, Yc, Yd, Ye, Yf] at g82
    refine Ko rfl $ Km rfl $ Ko rfl $ Kp rfl $ Kr rfl $ E.nil $ X.join0 (Sub.cons (by exact leaf_d (by omega)) $ Sub.nil _) rfl rfl
   try simp only [Ya, Yb, Yc, Yd, Ye, Yf] at g82
   refine Kq rfl $ Kq rfl $ Kr rfl $ E.nil $ X.join0 (Sub.cons (by exact leaf_f (by omega)) $ Sub.nil _) rfl rfl
  refine C.cond' rfl (fun hC5 => ?_) (fun hC5 => ?_)
  ·
   rw [Df.rs3_big hC5] at hsq
   refine Kk $ C.block $ Kb $ Km rfl $ E.min2 rfl rfl rfl ?_
   rw [show min (m : Int) 6 = ((min m 6 : Nat) : Int) by omega]
   refine Kd rfl $ Kf rfl $ E.subN (a := min m 6) (b := 3) rfl rfl (by omega) rfl $ E.buildC (cs := [_, _, _]) [.int .i64 0, .int .i64 0, .int .i64 0] [0, 1, 2] rfl rfl (by kernel_rfl) rfl $ E.pushFM 0 (16, min m 6 - 3, 2) hM rfl rfl rfl Tryz.underlying134 elem_Tref34_item rfl (by decide) (esr_one _) (by omega) (by omega) (by simp) rfl rfl ?_
   intro v93 u93 w12 hM
   refine Kc rfl $ C.region $ Kf rfl $ E.subN (a := m) (b := min m 6) rfl rfl (by omega) rfl $ Kn rfl $ E.nil $ X.outN $ X.again3 (m - min m 6) (ys ++ [(16, min m 6 - 3, 2)]) v93 (Sub.cons rfl $ S1 rfl) rfl ⟨hM, by rw [hsq, List.append_assoc]; rfl, by rw [List.length_append, List.length_singleton]; omega⟩ (by omega)
  rw [Df.rs3_few hC5] at hsq
  refine Kx $ C.block $ C.loop3 [(0, _), (4, _), (6, _)] rfl (fun (m : Nat) (ys : (List Stp)) (vo : Value) => [(3, vo), (5, i64 m)]) (fun (m : Nat) (ys : (List Stp)) (vo : Value) w' => M w (Nn) w' [Rg.slF esr 3 137 vo ys] ∧ Df.sq l 0 = ys ++ (List.replicate m ((l.getD a 0), 0, 0) ++ Df.sq l e) ∧ ys.length + m ≤ e) (fun (m : Nat) (ys : (List Stp)) (vo : Value) => m) m ys vo ?_ ?_ ?_
  · exact Sub.cons rfl $ S1 rfl
  · exact ⟨hM, hsq, hyl⟩
  rintro m ys vo w13 ⟨hM, hsq, hyl⟩
  refine C.seq $ Kb $ Km rfl $ Kp rfl $ Ka $ C.cond' rfl (fun hC6 => ?_) (fun hC6 => ?_)
  ·
   obtain ⟨mq, rfl⟩ : ∃ q, m = q + 1 := ⟨m - 1, by omega⟩
   rw [List.replicate_succ] at hsq
   refine Kk $ C.block $ Kb $ Kf rfl $ E.buildC (cs := [_, _, _]) [.int .i64 0, .int .i64 0, .int .i64 0] [0] rfl rfl (by kernel_rfl) rfl $ E.pushFM 0 (l.getD a 0, 0, 0) hM rfl rfl rfl Tryz.underlying134 elem_Tref34_item rfl (by decide) (esr_one _) (by omega) (by omega) (by simp) rfl rfl ?_
   intro v103 u103 w14 hM
   refine Kc rfl $ C.region $ Km rfl $ E.subN (a := mq + 1) (b := 1) rfl rfl (by omega) rfl $ Kn rfl $ E.nil $ X.outN $ X.again3 mq (ys ++ [(l.getD a 0, 0, 0)]) v103 (Sub.cons rfl $ S1 rfl) rfl ⟨hM, by rw [hsq, List.append_assoc]; rfl, by rw [List.length_append, List.length_singleton]; omega⟩ (by omega)
  obtain rfl : m = 0 := by omega
  rw [List.replicate_zero, List.nil_append] at hsq
  refine C.exit $ X.exitT $ X.exitT $ X.outE $ X.outN $ X.again3 e ys vo (Sub.cons rfl $ S1 rfl) rfl ⟨hM, hr2, hsq, by omega⟩ (by omega)
 rw [Df.sq_end (show l.length ≤ a by omega), List.append_nil] at hsq
 refine Kx $ Kb $ Km rfl $ Kc rfl $ C.ret $ ret1 rfl rfl ?_
 exact hM.to (by rw [hsq])
end Go.Proofs.YtajklleiifhipaaGreatDoor
