/- Texts of the claim, laid together: Df5, Df9, Pf7, DfI. -/
import Derived.Test.YtajklleiifhipaaGreatDoorY0
import Derived.Test.YtajklleiifhipaaGreatDoorY5
import Derived.Test.YtajklleiifhipaaGreatDoorY6
import Derived.Test.YtajklleiifhipaaGreatDoorY11
import Derived.Test.YtajklleiifhipaaGreatDoorY13
set_option linter.unusedSimpArgs false
set_option linter.unusedVariables false
namespace Go.Proofs.YtajklleiifhipaaGreatDoor
open Go.RowKit Sym
theorem Fs.look {l : List UInt8} {a : Nat} {m : List (Int × Int)} {bf : List Int} (h : Fs l a m bf) (k : Nat) : (aget m (k : Int) = none ∧ Df.pv l k a = -1) ∨ (aget m (k : Int) = some (Df.pv l k a) ∧ 0 ≤ Df.pv l k a) := by
 rw [h.last k]
 rcases Df.pv_spec l k a with ⟨h1, _⟩ | ⟨q, h1, _⟩
 · left; rw [if_pos h1]; exact ⟨rfl, h1⟩
 right; rw [if_neg (by omega)]; exact ⟨rfl, by omega⟩
theorem bgo_none {l : List UInt8} {a m len dist seen : Nat} (ha : a + 3 ≤ l.length) (hm : m ≤ a) (h : Df.pv l (Df.key l a) m < 0) : Df.bgo l a m len dist seen = (len, dist) := by
 rcases Df.bgo_pv (len := len) (dist := dist) (seen := seen) ha hm with ⟨_, h2⟩ | ⟨q, h1, _⟩
 · exact h2
 omega
theorem bgo_some {l : List UInt8} {a m len dist seen : Nat} (ha : a + 3 ≤ l.length) (hm : m ≤ a) (h : 0 ≤ Df.pv l (Df.key l a) m) (hs : seen < 32) : ∃ q : Nat, Df.pv l (Df.key l a) m = (q : Int) ∧ q < m ∧ q + 3 ≤ l.length ∧ Df.key l q = Df.key l a ∧
  Df.bgo l a m len dist seen = if len < Df.eqn l q a then Df.bgo l a q (Df.eqn l q a) (a - q) (seen + 1) else Df.bgo l a q len dist (seen + 1) := by
 rcases Df.bgo_pv (len := len) (dist := dist) (seen := seen) ha hm with ⟨h1, _⟩ | ⟨q, h1, h2, h3, h4, h5, h6⟩
 · omega
 refine ⟨q, h1, h2, h3, h4, ?_⟩
 rw [h6, Df.bgo, if_neg (by omega), if_pos h5]
set_option maxHeartbeats 2000000 in
theorem best_ret (b r a : Nat) (p vb : Value) (l : List UInt8) (m : List (Int × Int)) (bf : List Int) (w : World) (hs : Sep w [Rg.blk b 116 [p, .map (some r), vb], Rg.mp r .u32 i64 m, Rg.sl i64 3 vb bf]) (hp : RdL u8 w p l) (ho : Off (fpU [Rg.blk b 116 [p, .map (some r), vb], Rg.mp r .u32 i64 m, Rg.sl i64 3 vb bf]) p l) (hF : Fs l a m bf) (ha : a < l.length) (hl : l.length ≤ 32768) :
  Ret Tryz.prog 91 #[pv b, i64 a] w fun v w' => v = .tuple #[i64 ((Df.bst l a).1 : Int), i64 ((Df.bst l a).2 : Int)] ∧ M w (fpU [Rg.blk b 116 [p, .map (some r), vb], Rg.mp r .u32 i64 m, Rg.sl i64 3 vb bf]) w' [Rg.blk b 116 [p, .map (some r), vb], Rg.mp r .u32 i64 m, Rg.sl i64 3 vb bf] := by
 have hM := M.startS hs
 refine enter Tryz.func91 rfl (by kernel_rfl) Tryz.ntmps91 rfl $ Kb $ Kn rfl $ Kc rfl $ C.seq $ Kb $ Km rfl $ E.addN (a := a) (b := 3) rfl rfl (by omega) rfl $ Km rfl $ E.nilc rfl rfl $ E.fld (o := 0) (sz := 0) rfl U116 rfl rfl (by kernel_rfl) rfl $ E.load rfl U22 rfl (hM.bcell 0 rfl rfl) rfl $ E.lenv rfl (Rd.shape (hM.arg hp ho)) U22 rfl $ Kp rfl $ Ka $ C.cond' rfl (fun hC0 => ?_) (fun hC0 => ?_)
 ·
  refine Kb $ Kn rfl $ Kc rfl $ C.ret $ X.retT $ ret2 rfl rfl rfl ?_
  exact ⟨by rw [Df.bst_short (by omega)]; rfl, hM⟩
 have h3 : a + 3 ≤ l.length := by omega
 refine Kk $ C.seq $ C.drawn (by kernel_rfl) (by kernel_rfl) $ Q.mv rfl rfl $ Q.nilc rfl rfl $ Q.fld (o := 1) (sz := 0) rfl U116 rfl rfl (by kernel_rfl) rfl $ Q.load rfl Tryz.underlying114 rfl (hM.bcell 0 rfl rfl) rfl $ Q.mv rfl rfl $ Q.mv rfl rfl $ Q.call (v := .int .u32 (Df.key l a : Int)) rfl rfl (fun w' hw' => key_ret b a p l _ ((hM.ext hw').bcell 0 rfl rfl) ((hM.ext hw').arg hp ho) h3) $ Q.lookup2 (z := .int .i64 0) rfl rfl Tryz.underlying114 U58 (by kernel_rfl) (hM.mp 1 rfl) rfl $ Q.mv rfl rfl $ Q.ext rfl rfl rfl $ Q.ext rfl rfl rfl $ Q.asg rfl rfl $ Q.asg rfl rfl $ Q.nil $ fun w0 hx0 => ?_
 have hM := hM.ext hx0
 refine X.next $ C.seq $ Kb $ Km rfl $ E.not rfl rfl $ Ka $ C.cond rfl (fun hC1 => ?_) (fun hC1 => ?_)
 ·
  have hz : aget m (Df.key l a : Int) = none := by simpa using hC1
  refine Kb $ Kn rfl $ Kc rfl $ C.ret $ X.retT $ ret2 rfl rfl rfl ?_
  exact ⟨(by
    rcases hF.look (Df.key l a) with ⟨_, h1⟩ | ⟨h1, _⟩
    · rw [Df.bst, bgo_none h3 (Nat.le_refl _) (by omega)]; rfl
    rw [hz] at h1; cases h1), hM⟩
 have hz : aget m (Df.key l a : Int) = some (Df.pv l (Df.key l a) a) := by
  rcases hF.look (Df.key l a) with ⟨h1, _⟩ | ⟨h1, _⟩
  · rw [h1] at hC1; simp at hC1
  exact h1
 rw [hz]
 refine Kk $ C.seq $ Kb $ Kc rfl $ C.block $ C.loop4 [(0, _), (1, _)] rfl (fun (n : Nat) (len : Nat) (dist : Nat) (k : Nat) => [(4, i64 len), (5, i64 dist), (6, i64 (Df.pv l (Df.key l a) k)), (8, i64 n)]) (fun (n : Nat) (len : Nat) (dist : Nat) (k : Nat) w' => M w (fpU [Rg.blk b 116 [p, .map (some r), vb], Rg.mp r .u32 i64 m, Rg.sl i64 3 vb bf]) w' [Rg.blk b 116 [p, .map (some r), vb], Rg.mp r .u32 i64 m, Rg.sl i64 3 vb bf] ∧ n ≤ 32 ∧ k ≤ a ∧ len ≤ 258 ∧ dist ≤ a ∧ Df.bgo l a k len dist n = Df.bst l a) (fun (n : Nat) (len : Nat) (dist : Nat) (k : Nat) => 32 - n) 0 0 0 a ?_ ?_ ?_
 · exact Sub.cons rfl $ Sub.cons rfl $ Sub.cons rfl $ S1 rfl
 · exact ⟨hM, by omega, Nat.le_refl _, by omega, by omega, rfl⟩
 rintro n len dist k w1 ⟨hM, hn, hk, hle, hdi, hbg⟩
 obtain ⟨j, hj⟩ : ∃ j, j = Df.pv l (Df.key l a) k := ⟨_, rfl⟩
 rw [← hj]
 have hjk : j < k := by rcases Df.pv_spec l (Df.key l a) k with ⟨h1, _⟩ | ⟨q, h1, h2, _⟩ <;> omega
 have hj1 : -1 ≤ j := by rcases Df.pv_spec l (Df.key l a) k with ⟨h1, _⟩ | ⟨q, h1, h2, _⟩ <;> omega
 refine C.seq $ C.chainE [(0, _), (1, _), (4, _), (5, _), (6, _), (8, _)] rfl [(42, .bool (decide (n < 32 ∧ 0 ≤ j)))] ?_ ?_
 ·
  refine C.region $ Km rfl $ Kp rfl $ Km rfl $ E.split 33 rfl (fun g33 => ?_) (fun g33 => ?_)
  ·
   try simp only [Ya, Yb, Yc, Yd, Ye, Yf] at g33
   refine Ko rfl $ Km rfl $ Ko rfl $ Kp rfl $ Kr rfl $ Km rfl $ E.split 37 rfl (fun g37 => ?_) (fun g37 => ?_)
   ·
    try simp only [Ya, Yb, Yc, Yd, Ye, Yf] at g37
    refine Ko rfl $ Km rfl $ Ko rfl $ Km rfl $ Ko rfl $ E.sub' rfl rfl (by omega) rfl $ Ko rfl $ Kp rfl $ Kr rfl $ E.nil $ X.join0 (Sub.cons (by exact leaf_d (by omega)) $ Sub.nil _) rfl rfl
   try simp only [Ya, Yb, Yc, Yd, Ye, Yf] at g37
   refine Kq rfl $ Kq rfl $ Kq rfl $ Kq rfl $ Kr rfl $ E.nil $ X.join0 (Sub.cons (by exact leaf_f (by omega)) $ Sub.nil _) rfl rfl
  try simp only [Ya, Yb, Yc, Yd, Ye, Yf] at g33
  refine Kq rfl $ Kq rfl $ Kr rfl $ Km rfl $ Kq rfl $ Kq rfl $ Kq rfl $ Kq rfl $ Kr rfl $ E.nil $ X.join0 (Sub.cons (by exact leaf_f (by omega)) $ Sub.nil _) rfl rfl
 refine C.cond' rfl (fun hC2 => ?_) (fun hC2 => ?_)
 ·
  rw [hj] at hC2
  obtain ⟨q, hq1, hq2, hq3, hq4, hq5⟩ := bgo_some (len := len) (dist := dist) h3 hk hC2.2 hC2.1
  rw [hbg] at hq5
  rw [hj, hq1]
  have hbl := hF.len
  have hgq := hF.bef q (by omega) hq3
  rw [hq4, List.getD_eq_getElem?_getD, List.getElem?_eq_getElem (by omega)] at hgq
  have hgq : bf[q] = Df.pv l (Df.key l a) q := hgq
  have heq := (Df.eqn_spec l q a).1
  refine Kk $ C.seq $ C.block $ C.cut2 [(0, _), (1, _), (6, _), (8, _)] rfl (fun (len : Nat) (dist : Nat) => [(4, i64 len), (5, i64 dist)]) (fun (len : Nat) (dist : Nat) w' => M w (fpU [Rg.blk b 116 [p, .map (some r), vb], Rg.mp r .u32 i64 m, Rg.sl i64 3 vb bf]) w' [Rg.blk b 116 [p, .map (some r), vb], Rg.mp r .u32 i64 m, Rg.sl i64 3 vb bf] ∧ len ≤ 258 ∧ dist ≤ a ∧ Df.bgo l a q len dist (n + 1) = Df.bst l a) ?_ ?_
  ·
   refine Kb $ Kf rfl $ Km rfl $ E.call rfl rfl (equal_ret b q a p (.map (some r)) vb l _ (hM.pick [0] (by decide)).sep (hM.arg hp ho) (offB ho) (by omega) (by omega) (by omega)) ?_
   rintro _ w3 ⟨rfl, m3⟩
   have hM := hM.calls [0] (by decide) rfl (by simp) m3
   refine Kd rfl $ Kf rfl $ Kp rfl $ Ka $ C.cond' rfl (fun hC3 => ?_) (fun hC3 => ?_)
   ·
    rw [if_pos (by omega)] at hq5
    refine C.region $ Kf rfl $ Km rfl $ E.subN (a := a) (b := q) rfl rfl (by omega) rfl $ Kn rfl $ Kn rfl $ E.nil $ X.join2 (Df.eqn l q a) (a - q) (Sub.cons rfl $ S1 rfl) rfl ⟨hM, heq, by omega, hq5.symm⟩
   rw [if_neg (by omega)] at hq5
   refine C.skip $ X.join2 len dist (Sub.cons rfl $ S1 rfl) rfl ⟨hM, hle, hdi, hq5.symm⟩
  rintro len dist w3 ⟨hM, hle, hdi, hbg⟩
  refine C.region $ Km rfl $ E.nilc rfl rfl $ E.fld (o := 2) (sz := 0) rfl U116 rfl rfl (by kernel_rfl) rfl $ E.load rfl U76 rfl (hM.bcell 0 rfl rfl) rfl $ Km rfl $ E.get (k := q) rfl rfl (hM.sl 2 rfl) rfl (by omega) U76 (by kernel_rfl) U3 rfl rfl rfl ?_
  rw [hgq]
  refine Kn rfl $ E.nil $ X.outN $ X.next $ C.region $ Km rfl $ E.addN (a := n) (b := 1) rfl rfl (by omega) rfl $ Kn rfl $ E.nil $ X.again4 (n + 1) len dist q (Sub.cons rfl $ Sub.cons rfl $ Sub.cons rfl $ S1 rfl) rfl ⟨hM, by omega, by omega, hle, hdi, hbg⟩ (by omega)
 have hfin : Df.bst l a = (len, dist) := by
  rw [← hbg]
  by_cases h32 : n < 32
  · exact bgo_none h3 hk (by rw [← hj]; omega)
  exact Df.bgo_full (by omega) k
 refine Kx $ Kb $ Kf rfl $ Kn rfl $ Kc rfl $ C.ret $ ret2 rfl rfl rfl ?_
 exact ⟨by rw [hfin], hM⟩
abbrev AL := List (Int × Int)
theorem nz_snoc (ts : List Nat) (t : Nat) : nz ts ++ [(t : Int)] = nz (ts ++ [t]) := by unfold nz; rw [List.map_append]; rfl
set_option maxHeartbeats 4000000 in
set_option maxRecDepth 4000 in
theorem Matches_ret (p : Value) (l : List UInt8) (w : World) (hp : RdL u8 w p l) (hl : l.length ≤ 32768) :
  Ret Tryz.prog 61 #[p] w fun v w' => ∃ vt, v = .tuple #[vt, i64 0] ∧ M w Nn w' [Rg.sl i64 3 vt (nz (Df.toks l 0))] := by
 have hM := M.start w
 refine enter Tryz.func61 rfl (by kernel_rfl) Tryz.ntmps61 rfl $ Kb $ Kn rfl $ Kc rfl $ C.seq $ Kb $ Km rfl $ E.lenv rfl (Rd.shape (hM.arg0 hp)) U22 rfl $ Kp rfl $ Ka $ C.cond' rfl (fun hC0 => ?_) (fun hC0 => ?_)
 ·
  omega
 refine Kk $ Kb $ Km rfl $ E.mkmapM .u32 i64 hM rfl ?_
 intro r13 w0 hM
 refine Km rfl $ E.lenv rfl (Rd.shape (hM.arg0 hp)) U22 rfl $ E.makeM (by_ := 8) (enc := i64) 0 hM rfl U76 (by kernel_rfl) rfl (by omega) (by omega) rfl ?_
 intro v16 w1 hM
 obtain ⟨pa, pc, rfl⟩ := Rd.shape hp
 obtain ⟨qa, qc, rfl⟩ := Rd.shape (hM.sl 1 rfl)
 refine E.buildC (cs := [_, _, _]) [.slice none 0 0, .map none, .slice none 0 0] [0, 1, 2] rfl rfl (by kernel_rfl) rfl $ E.boxM hM rfl rfl rfl ?_
 intro b18 w2 hM
 refine Kd rfl $ Kc rfl $ C.seq $ Kb $ Kc rfl $ C.block $ ?_
 obtain ⟨p, hpe⟩ : ∃ p, p = Value.slice pa l.length pc := ⟨_, rfl⟩
 rw [← hpe] at hM hp ⊢
 obtain ⟨v16, hve⟩ : ∃ v16, v16 = Value.slice qa (List.replicate l.length (0 : Int)).length qc := ⟨_, rfl⟩
 rw [← hve] at hM
 have hM := hM.nil i64 3
 refine C.loop5 [(0, _), (4, _)] rfl (fun (a : Nat) (ts : (List Nat)) (m : AL) (bf : (List Int)) (vt : Value) => [(5, vt), (6, i64 a)]) (fun (a : Nat) (ts : (List Nat)) (m : AL) (bf : (List Int)) (vt : Value) w' => M w (Nn) w' [Rg.mp r13 .u32 i64 m, Rg.sl i64 3 v16 bf, Rg.blk b18 116 [p, .map (some r13), v16], Rg.sl i64 3 vt (nz ts)] ∧ a ≤ l.length ∧ Df.toks l 0 = ts ++ Df.toks l a ∧ Fs l a m bf ∧ ts.length ≤ a) (fun (a : Nat) (ts : (List Nat)) (m : AL) (bf : (List Int)) (vt : Value) => l.length - a) 0 [] [] (List.replicate l.length 0) (.slice none 0 0) ?_ ?_ ?_
 · exact Sub.cons rfl $ S1 rfl
 · exact ⟨hM, Nat.zero_le _, rfl, Fs.zero l, Nat.le_refl _⟩
 rintro a ts m bf vt w3 ⟨hM, ha, htk, hF, htl⟩
 refine C.seq $ Kb $ Kf rfl $ E.lenv rfl (Rd.shape (hM.arg0 hp)) U22 rfl $ Kp rfl $ Ka $ C.cond' rfl (fun hC1 => ?_) (fun hC1 => ?_)
 ·
  have ha' : a < l.length := by omega
  obtain ⟨gb1, gb2, gb3⟩ := Df.bst_bd ha'
  have hnl := nz_len ts
  refine Kk $ C.block $ Kb $ Kf rfl $ E.call rfl rfl (best_ret b18 r13 a p v16 l m bf _ (hM.pick [2, 0, 1] (by decide)).sep (hM.arg0 hp) ((hM.pick [2, 0, 1] (by decide)).off0 hp) hF ha' hl) ?_
  rintro _ w4 ⟨rfl, m4⟩
  have hM := hM.calls [2, 0, 1] (by decide) rfl (by simp) m4
  refine Km rfl $ E.ext rfl rfl rfl $ E.ext rfl rfl rfl $ Kn rfl $ Kc rfl $ C.cut3 [(0, _), (4, _), (6, _)] rfl (fun (n : Nat) (ts : (List Nat)) (vt : Value) => [(5, vt), (7, i64 n)]) (fun (n : Nat) (ts : (List Nat)) (vt : Value) w' => M w (Nn) w' [Rg.mp r13 .u32 i64 m, Rg.sl i64 3 v16 bf, Rg.blk b18 116 [p, .map (some r13), v16], Rg.sl i64 3 vt (nz ts)] ∧ 1 ≤ n ∧ a + n ≤ l.length ∧ Df.toks l 0 = ts ++ Df.toks l (a + n) ∧ ts.length ≤ a + 1) ?_ ?_
  ·
   refine Kb $ Km rfl $ Kp rfl $ Ka $ C.cond' rfl (fun hC2 => ?_) (fun hC2 => ?_)
   ·
    have h0 : (Df.bst l a).1 = 0 := by omega
    have hb8 := l[a].toNat_lt
    rw [Df.toks_lit ha' h0, gdU ha'] at htk
    refine Kb $ Kf rfl $ Km rfl $ E.get (k := a) rfl rfl (hM.arg0 hp) rfl (by omega) U22 (by kernel_rfl) U5 rfl rfl rfl $ E.conv rfl U5 U3 (IntWalk.i64_in _ (by omega)) rfl $ E.pushM (enc := i64) 3 (l[a].toNat : Int) hM rfl rfl rfl U76 elem_Tint rfl (by omega) (by omega) (by simp) rfl rfl ?_
    intro v38 u38 w5 hM
    rw [nz_snoc] at hM
    refine Kc rfl $ C.region $ Kn rfl $ E.nil $ X.join3 1 (ts ++ [l[a].toNat]) v38 (Sub.cons rfl $ S1 rfl) rfl ⟨hM, by omega, by omega, by rw [htk, List.append_assoc]; rfl, by rw [List.length_append, List.length_singleton]; omega⟩
   have h0 : ¬ (Df.bst l a).1 = 0 := by omega
   rw [Df.toks_mat ha' h0] at htk
   refine C.region $ Kf rfl $ E.shl rfl rfl (by decide) (shl_nat (k := 16) (c := (Df.bst l a).1 * 65536) (by decide) (by omega) (by omega)) rfl $ Km rfl $ E.addN (a := (Df.bst l a).1 * 65536) (b := (Df.bst l a).2) rfl rfl (by omega) rfl $ E.pushM (enc := i64) 3 (((Df.bst l a).1 * 65536 + (Df.bst l a).2 : Nat) : Int) hM rfl rfl rfl U76 elem_Tint rfl (by omega) (by omega) (by simp) rfl rfl ?_
   intro v45 u45 w6 hM
   rw [nz_snoc] at hM
   refine Kn rfl $ E.nil $ X.join3 (Df.bst l a).1 (ts ++ [(Df.bst l a).1 * 65536 + (Df.bst l a).2]) v45 (Sub.cons rfl $ S1 rfl) rfl ⟨hM, by omega, gb3, by rw [htk, List.append_assoc]; rfl, by rw [List.length_append, List.length_singleton]; omega⟩
  rintro n ts vt w7 ⟨hM, hn1, han, htk, htl⟩
  refine Kb $ Kf rfl $ Ka $ C.block $ C.loop3 [(0, _), (4, _), (5, _), (46, _)] rfl (fun (k : Nat) (m : AL) (bf : (List Int)) => [(6, i64 ((a + k : Nat) : Int)), (47, i64 k)]) (fun (k : Nat) (m : AL) (bf : (List Int)) w' => M w (Nn) w' [Rg.mp r13 .u32 i64 m, Rg.sl i64 3 v16 bf, Rg.blk b18 116 [p, .map (some r13), v16], Rg.sl i64 3 vt (nz ts)] ∧ k ≤ n ∧ Fs l (a + k) m bf) (fun (k : Nat) (m : AL) (bf : (List Int)) => n - k) 0 m bf ?_ ?_ ?_
  · exact Sub.cons rfl $ S1 rfl
  · exact ⟨hM, Nat.zero_le _, hF⟩
  rintro k m bf w8 ⟨hM, hk, hF⟩
  refine Kb $ Kp rfl $ Ka $ C.seq $ C.cond' rfl (fun hC3 => ?_) (fun hC3 => ?_)
  ·
   refine Kk $ C.seq $ C.block $ Kb $ Kf rfl $ E.call rfl rfl (add_ret b18 r13 (a + k) p v16 l m bf _ (hM.pick [2, 0, 1] (by decide)).sep (hM.arg0 hp) ((hM.pick [2, 0, 1] (by decide)).off0 hp) hF (by omega)) ?_
   rintro _ w6 ⟨m', bf', m6, hF'⟩
   have hM := hM.calls [2, 0, 1] (by decide) rfl (by simp) m6
   refine Ka $ C.region $ Km rfl $ E.addN (a := a + k) (b := 1) rfl rfl (by omega) rfl $ Kn rfl $ E.nil $ X.outN $ X.next $ C.region $ E.addN (a := k) (b := 1) rfl rfl (by omega) rfl $ Km rfl $ E.nil $ X.again3 (k + 1) m' bf' (Sub.cons rfl $ S1 rfl) rfl ⟨hM, by omega, hF'⟩ (by omega)
  obtain rfl : k = n := by omega
  refine C.exit $ X.exitT $ X.exitT $ X.outE $ X.outN $ X.again5 (a + k) ts m bf vt (Sub.cons rfl $ S1 rfl) rfl ⟨hM, han, htk, hF, by omega⟩ (by omega)
 rw [Df.toks_end (show l.length ≤ a by omega), List.append_nil] at htk
 refine Kx $ Kb $ Km rfl $ Kn rfl $ Kc rfl $ C.ret $ ret2 rfl rfl rfl ?_
 exact ⟨vt, rfl, by rw [htk]; exact hM.pick [3] (by decide)⟩
end Go.Proofs.YtajklleiifhipaaGreatDoor
namespace Go.Proofs.YtajklleiifhipaaGreatDoor
open Go.RowKit Sym
namespace Df
noncomputable def blL (lv : Nat) (ts : List Nat) : List Nat := if lv = 1 then fixL else oln (fql ts) 15
noncomputable def blD (lv : Nat) (ts : List Nat) : List Nat := if lv = 1 then fixD else oln (fqd ts) 15
noncomputable def hdv (lv : Nat) (ts : List Nat) : List Bool := if lv = 1 then [] else hdr (blL lv ts) (blD lv ts)
noncomputable def cbits (lv : Nat) (ts : List Nat) : List Bool := low 1 1 ++ low lv 2 ++ hdv lv ts ++ tbs (blL lv ts) (blD lv ts) ts ++ btv (Pf.code (blL lv ts) 256) ((blL lv ts).getD 256 0)
noncomputable def cmp (l : List UInt8) (lv : Nat) : List UInt8 := if lv = 0 then sto l else pk (cbits lv (toks l 0))
noncomputable def cmv (l : List UInt8) (x : Int) : List UInt8 := if x < 0 ∨ 2 < x then [] else cmp l x.toNat
theorem fix_kr : Pf.kr fixL = 1073741824 ∧ Pf.kr fixD = 1073741824 := by decide +kernel
theorem fix_le : (∀ n ∈ fixL, n ≤ 15) ∧ ∀ n ∈ fixD, n ≤ 15 := by decide +kernel
theorem fix_len : fixL.length = 288 ∧ fixD.length = 32 := ⟨tab_len _ _, tab_len _ _⟩
theorem bl_ok (lv : Nat) {ts : List Nat} (hl : ts.length ≤ 1000000) : 286 ≤ (blL lv ts).length ∧ 30 ≤ (blD lv ts).length ∧ (∀ n ∈ blL lv ts, n ≤ 15) ∧ (∀ n ∈ blD lv ts, n ≤ 15) ∧ Pf.kr (blL lv ts) ≤ 1073741824 ∧ Pf.kr (blD lv ts) ≤ 1073741824 ∧ (blL lv ts).length ≤ 288 ∧ (blD lv ts).length ≤ 32 ∧ (lv ≠ 1 → (blL lv ts).length = 286 ∧ (blD lv ts).length = 30) := by
  unfold blL blD
  by_cases h : lv = 1
  · rw [if_pos h, if_pos h, fix_len.1, fix_len.2, fix_kr.1, fix_kr.2]
    exact ⟨by decide, by decide, fix_le.1, fix_le.2, by decide, by decide, by decide, by decide, fun c => (c h).elim⟩
  rw [if_neg h, if_neg h]
  have g1 := oln_law (fs := fql ts) (m := 15) (by decide) (by decide) (fun n hn => by have := fql_bd ts n hn; omega) (by rw [fql_len]; decide) (by rw [fql_len]; decide)
  have g2 := oln_law (fs := fqd ts) (m := 15) (by decide) (by decide) (fun n hn => by have := fqd_bd ts n hn; omega) (by rw [fqd_len]; decide) (by rw [fqd_len]; decide)
  have k1 := oln_ok (fs := fql ts) (m := 15) (by decide) (by decide) (fun n hn => by have := fql_bd ts n hn; omega) (by rw [fql_len]; decide) (by rw [fql_len]; decide)
  have k2 := oln_ok (fs := fqd ts) (m := 15) (by decide) (by decide) (fun n hn => by have := fqd_bd ts n hn; omega) (by rw [fqd_len]; decide) (by rw [fqd_len]; decide)
  rw [g1.2.1, g2.2.1, fql_len, fqd_len]
  exact ⟨by decide, by decide, k1.1, k2.1, k1.2, k2.2, by decide, by decide, fun _ => ⟨rfl, rfl⟩⟩
theorem toks_len (p : List UInt8) (i : Nat) : (toks p i).length ≤ p.length - i := by
  by_cases h : i < p.length
  · by_cases h2 : (bst p i).1 = 0
    · rw [toks_lit h h2, List.length_cons]; have := toks_len p (i + 1); omega
    rw [toks_mat h h2, List.length_cons]; have := toks_len p (i + (bst p i).1); have := bst_bd h; omega
  rw [toks_end (by omega)]; simp
termination_by p.length - i
theorem toks_tok {p : List UInt8} (hp : p.length ≤ 32768) : ∀ t ∈ toks p 0, Tok t := fun t ht => by
 rcases toks_ok hp 0 t ht with h | ⟨h1, h2, h3, h4⟩
 · exact .inl h
 exact .inr ⟨h1, h2, h3, by omega⟩
theorem hdr_len {L D : List Nat} (hL : L.length = 286) (hD : D.length = 30) (hbL : ∀ n ∈ L, n ≤ 15) (hbD : ∀ n ∈ D, n ≤ 15) : (hdr L D).length ≤ 20000 := by
 have hal := allL_len hL hD
 have hst := sq_ok (m := 15) (allL_mem hbL hbD) 0
 have hsl := sq_len (allL L D) 0
 unfold hdr
 generalize sq (allL L D) 0 = st at *
 have hcb := (oln_ok (fs := frqS st) (m := 7) (by decide) (by decide) (fun n hn => by have := frqS_bd st n hn; omega) (by rw [frqS_len]; decide) (by rw [frqS_len]; decide)).1
 generalize oln (frqS st) 7 = c at *
 have h1 := hdr3_len c (ctn (lst c) 4)
 have h2 := sbs_len (c := c) (fun n hn => Nat.le_trans (hcb n hn) (by decide)) hst
 simp only [List.length_append, low_len]; omega
end Df
theorem Sym.M.as {w0 w : World} {S : Nat → Prop} {rs rs' : List Rg} (h : M w0 S w rs) (e : rs = rs') : M w0 S w rs' := e ▸ h
set_option maxHeartbeats 8000000 in
set_option maxRecDepth 8000 in
theorem Compress_ret (p : Value) (l : List UInt8) (x : Int) (w : World) (hp : RdL u8 w p l) (hl : l.length ≤ 32768) (hO : Ord w) :
  Ret Tryz.prog 44 #[p, i64 x] w fun v w' => ∃ vo, v = .tuple #[vo, i64 (if x < 0 ∨ 2 < x then 3 else 0)] ∧ M w Nn w' [Rg.sl u8 5 vo (Df.cmv l x)] := by
 have hM := M.start w
 refine enter Tryz.func44 rfl (by kernel_rfl) Tryz.ntmps44 rfl $ Kb $ Kn rfl $ Kc rfl $ C.seq $ C.chainE [(0, _), (1, _)] rfl [(16, .bool (decide (x < 0 ∨ 2 < x)))] ?_ ?_
 ·
  refine C.region $ Km rfl $ Kp rfl $ Km rfl $ E.split 13 rfl (fun g13 => ?_) (fun g13 => ?_)
  ·
   try simp only [Ya, Yb, Yc, Yd, Ye, Yf] at g13
   refine Kq rfl $ Kq rfl $ Kr rfl $ E.nil $ X.join0 (Sub.cons (by exact leaf_t (by omega)) $ Sub.nil _) rfl rfl
  try simp only [Ya, Yb, Yc, Yd, Ye, Yf] at g13
  refine Ko rfl $ Km rfl $ Ko rfl $ Kp rfl $ Kr rfl $ E.nil $ X.join0 (Sub.cons (by exact leaf_d (by omega)) $ Sub.nil _) rfl rfl
 refine C.cond' rfl (fun hC0 => ?_) (fun hC0 => ?_)
 ·
  refine Kb $ Kn rfl $ Kc rfl $ C.ret $ X.retT $ ret2 rfl rfl rfl ?_
  exact ⟨_, by rw [if_pos hC0], by rw [Df.cmv, if_pos hC0]; exact hM.nil u8 5⟩
 obtain ⟨lv, rfl⟩ : ∃ lv : Nat, x = (lv : Int) := ⟨x.toNat, by omega⟩
 have hcv : Df.cmv l lv = Df.cmp l lv := by rw [Df.cmv, if_neg hC0, Int.toNat_natCast]
 rw [hcv, if_neg hC0]
 have hlv : lv ≤ 2 := by omega
 clear hcv
 refine Kk $ C.seq $ Kb $ Km rfl $ E.lenv rfl (Rd.shape (hM.arg0 hp)) U22 rfl $ Kp rfl $ Ka $ C.cond' rfl (fun hC1 => ?_) (fun hC1 => ?_)
 ·
  omega
 refine Kk $ C.seq $ Kb $ Km rfl $ Kp rfl $ Ka $ C.cond' rfl (fun hC2 => ?_) (fun hC2 => ?_)
 ·
  obtain rfl : lv = 0 := by omega
  refine Kb $ Km rfl $ E.call rfl rfl (stored_ret p l _ (hM.arg0 hp) (by omega)) ?_
  rintro v23 w1 m
  have hM := hM.call m
  refine Kn rfl $ Kc rfl $ C.ret $ X.retT $ ret2 rfl rfl rfl ?_
  exact ⟨_, rfl, by rw [Df.cmp, if_pos rfl]; exact hM⟩
 have hlv0 : ¬ lv = 0 := by omega
 rw [show Df.cmp l lv = Df.pk (Df.cbits lv (Df.toks l 0)) by rw [Df.cmp, if_neg hlv0]]
 refine Kk $ Kb $ Km rfl $ E.call rfl rfl (Matches_ret p l _ (hM.arg0 hp) hl) ?_
 rintro _ w2 ⟨vt, rfl, m⟩
 have hM := hM.call m
 have htk := Df.toks_tok hl
 have htl := Df.toks_len l 0
 obtain ⟨ts, hts⟩ : ∃ ts, ts = Df.toks l 0 := ⟨_, rfl⟩
 rw [← hts] at hM htk htl ⊢
 obtain ⟨ga, gb, gc, gd, ge, gf, gg, gh, gi⟩ := Df.bl_ok lv (ts := ts) (by omega)
 refine Km rfl $ E.ext rfl rfl rfl $ E.ext rfl rfl rfl $ Kn rfl $ Kc rfl $ C.seq $ Kb $ Km rfl $ Kp rfl $ Ka $ C.cond' rfl (fun hC3 => ?_) (fun hC3 => ?_)
 ·
  exact (hC3 rfl).elim
 refine Kk $ Kb $ E.buildC (cs := [_, _]) [.slice none 0 0, .int .i64 0] [] rfl rfl (by kernel_rfl) rfl $ E.boxM hM rfl rfl rfl ?_
 intro b33 w2 hM
 have hM := ((hM.nil u8 5).pick [1, 2, 0] (by decide)).as (show _ = [Rg.blk b33 81 [(.slice none 0 0), i64 (fr [])], Rg.sl u8 5 (.slice none 0 0) (Df.pk []), Rg.sl i64 3 vt (nz ts)] from rfl)
 refine Kd rfl $ Km rfl $ E.call rfl rfl (bits_ret b33 _ [] 1 1 _ (hM.pick [0, 1] (by decide)).sep (by decide) (by decide) (by decide)) ?_
 rintro _ w3 ⟨vn3, m⟩
 have hM := hM.calls [0, 1] (by decide) rfl (by simp) m
 refine Ke $ Kf rfl $ E.call rfl rfl (bits_ret b33 vn3 _ lv 2 _ (hM.pick [0, 1] (by decide)).sep (by omega) (by decide) (by simp only [List.length_append, Df.low_len, List.length_nil]; omega)) ?_
 rintro _ w4 ⟨vn4, m⟩
 have hM := hM.calls [0, 1] (by decide) rfl (by simp) m
 refine Ke $ E.call rfl rfl (fixedLengths_ret _) ?_
 rintro _ w5 ⟨fl, fd, rfl, m⟩
 have hM := hM.call m
 refine Km rfl $ E.ext rfl rfl rfl $ E.ext rfl rfl rfl $ Kn rfl $ Kc rfl $ C.cut3 [(6, _), (8, _)] rfl (fun (vl : Value) (dl : Value) (vs : Value) => [(9, vl), (10, dl)]) (fun (vl : Value) (dl : Value) (vs : Value) w' => M w (Nn) w' [Rg.blk b33 81 [vs, i64 (fr (Df.low 1 1 ++ Df.low lv 2 ++ Df.hdv lv ts))], Rg.sl u8 5 vs (Df.pk (Df.low 1 1 ++ Df.low lv 2 ++ Df.hdv lv ts)), Rg.sl i64 3 vt (nz ts), Rg.sl i64 3 vl (nz (Df.blL lv ts)), Rg.sl i64 3 dl (nz (Df.blD lv ts))]) ?_ ?_
 ·
  refine Kb $ Km rfl $ Kp rfl $ Ka $ C.cond' rfl (fun hC4 => ?_) (fun hC4 => ?_)
  ·
   obtain rfl : lv = 2 := by omega
   refine Kb $ Km rfl $ E.call rfl rfl (ownLengths_ret vt ts _ (hM.sl 2 rfl) htk (by omega)) ?_
   rintro _ w6 ⟨ol, od, rfl, m⟩
   have hM := hM.call m
   have hM := hM.as (show _ = [Rg.blk b33 81 [vn4, i64 (fr (Df.low 1 1 ++ Df.low 2 2))], Rg.sl u8 5 vn4 (Df.pk (Df.low 1 1 ++ Df.low 2 2)), Rg.sl i64 3 vt (nz ts), Rg.sl i64 3 fl (nz Df.fixL), Rg.sl i64 3 fd (nz Df.fixD), Rg.sl i64 3 ol (nz (Df.blL 2 ts)), Rg.sl i64 3 od (nz (Df.blD 2 ts))] from rfl)
   refine Km rfl $ E.ext rfl rfl rfl $ E.ext rfl rfl rfl $ Kn rfl $ Kc rfl $ C.region $ Kf rfl $ Km rfl $ E.call rfl rfl (header_ret b33 vn4 ol od _ (Df.blL 2 ts) (Df.blD 2 ts) _ (hM.pick [0, 1, 5, 6] (by decide)).sep (hM.ord0 hO) ((hM.pick [0, 1, 5, 6] (by decide)).no0 hO) (gi (by decide)).1 (gi (by decide)).2 gc gd (by simp only [List.length_append, Df.low_len]; omega)) ?_
   rintro _ w7 ⟨vn7, m⟩
   have hM := hM.calls [0, 1, 5, 6] (by decide) rfl (by simp) m
   refine E.nil $ X.join3 ol od vn7 (Sub.cons rfl $ S1 rfl) rfl (hM.pick [0, 1, 2, 5, 6] (by decide))
  obtain rfl : lv = 1 := by omega
  refine C.skip $ X.join3 fl fd vn4 (Sub.cons rfl $ S1 rfl) rfl (hM.as (by rw [show Df.hdv 1 ts = [] from rfl, List.append_nil]; rfl))
 rintro vl dl vs w8 hM
 have hdl : (Df.hdv lv ts).length ≤ 20000 := by
  unfold Df.hdv
  split
  · simp
  exact Df.hdr_len (gi ‹_›).1 (gi ‹_›).2 gc gd
 refine Kb $ Kf rfl $ Km rfl $ E.call rfl rfl (newCode_ret vl _ _ (hM.sl 3 rfl)) ?_
 rintro _ w8 ⟨vc, rfl, m⟩
 have hM := hM.call m
 rw [cdv_ok (fun n hn => Nat.le_trans (gc n hn) (by decide)) ge (by omega)] at hM
 refine Km rfl $ E.call rfl rfl (newCode_ret dl _ _ (hM.sl 4 rfl)) ?_
 rintro _ w9 ⟨dc, rfl, m⟩
 have hM := hM.call m
 rw [cdv_ok (fun n hn => Nat.le_trans (gd n hn) (by decide)) gf (by omega)] at hM
 refine E.call rfl rfl (tokens_ret b33 vs vl vc dl dc vt _ (Df.blL lv ts) (Df.blD lv ts) ts _ (hM.pick [0, 1, 3, 5, 4, 6, 2] (by decide)).sep htk ga gb (fun n hn => Nat.le_trans (gc n hn) (by decide)) (fun n hn => Nat.le_trans (gd n hn) (by decide)) ge gf (by simp only [List.length_append, Df.low_len]; omega)) ?_
 rintro _ w10 ⟨vn10, m⟩
 have hM := hM.calls [0, 1, 3, 5, 4, 6, 2] (by decide) rfl (by simp) m
 refine Ke $ Km rfl $ E.nilc rfl rfl $ E.fld (o := 0) (sz := 0) rfl Tryz.underlying81 rfl rfl (by kernel_rfl) rfl $ E.load rfl U22 rfl (hM.bcell 0 rfl rfl) rfl $ Kn rfl $ Kc rfl $ C.ret $ ret2 rfl rfl rfl ?_
 exact ⟨_, rfl, hM.pick [1] (by decide)⟩
end Go.Proofs.YtajklleiifhipaaGreatDoor
namespace Go.Proofs.YtajklleiifhipaaGreatDoor
open Go.RowKit Sym
namespace Pf
theorem ord_pre (l : List Nat) {a b : Nat} (h : a ≤ b) : ∃ t, ord l b = ord l a ++ t := by
  induction b with
  | zero => obtain rfl : a = 0 := by omega
            exact ⟨[], by simp⟩
  | succ b ih =>
    by_cases e : a = b + 1
    · subst e; exact ⟨[], by simp⟩
    obtain ⟨t, ht⟩ := ih (by omega)
    exact ⟨t ++ sy l (b + 1), by rw [ord, ht]; simp⟩
theorem place {l : List Nat} {k m : Nat} (hk : k < (od l).length) (hm : m ≤ 31) : k < nx l m ↔ l.getD (od l)[k] 0 < m := by
  obtain ⟨t, ht⟩ := ord_pre l (show m - 1 ≤ 30 by omega)
  have hmem := (od_mem.1 (List.getElem_mem hk)).2
  constructor
  · intro h
    unfold nx at h
    have e : (od l)[k]? = (ord l (m - 1))[k]? := by rw [od_eq, ht, List.getElem?_append_left h]
    rw [List.getElem?_eq_getElem hk, List.getElem?_eq_getElem h, Option.some.injEq] at e
    have := (ord_mem.1 (List.getElem_mem h)).2
    rw [← e] at this; omega
  intro h
  have hin : (od l)[k] ∈ ord l (m - 1) := ord_mem.2 ⟨(od_mem.1 (List.getElem_mem hk)).1, hmem.1, by omega⟩
  obtain ⟨j, hj, e⟩ := List.getElem_of_mem hin
  have hj' : j < (od l).length := by rw [od_eq, ht, List.length_append]; omega
  have e2 : (od l)[j]? = (ord l (m - 1))[j]? := by rw [od_eq, ht, List.getElem?_append_left hj]
  rw [List.getElem?_eq_getElem hj', List.getElem?_eq_getElem hj, Option.some.injEq, e] at e2
  have e3 := (od_nodup l).idxOf_getElem j hj'
  have e4 := (od_nodup l).idxOf_getElem k hk
  rw [e2] at e3
  have : j = k := by omega
  unfold nx; omega
theorem place_eq {l : List Nat} {k n : Nat} (hk : k < (od l).length) (hn : n ≤ 30) (h : nx l n ≤ k) : k < nx l (n + 1) ↔ l.getD ((od l).getD k 0) 0 = n := by
 have h1 := place hk (show n ≤ 31 by omega)
 have h2 := place hk (show n + 1 ≤ 31 by omega)
 rw [getD_eq hk]; omega
noncomputable def fnd (l : List Nat) (v n : Nat) : Option Nat := (List.range l.length).find? fun i => decide (0 < n ∧ l.getD i 0 = n ∧ code l i = v)
theorem fnd_none {l : List Nat} {v n : Nat} : fnd l v n = none ↔ ∀ i, i < l.length → ¬ (0 < n ∧ l.getD i 0 = n ∧ code l i = v) := by
 unfold fnd; simp only [List.find?_eq_none, List.mem_range, decide_eq_true_eq]
theorem fnd_some {l : List Nat} {v n i : Nat} (hb : ∀ n ∈ l, n ≤ 30) (hi : i < l.length) (h0 : 0 < n) (h1 : l.getD i 0 = n) (h2 : code l i = v) : fnd l v n = some i := by
 cases h : fnd l v n with
 | none => exact (fnd_none.1 h i hi ⟨h0, h1, h2⟩).elim
 | some j =>
  have hp := List.find?_some h
  have hm := List.mem_of_find?_eq_some h
  rw [List.mem_range] at hm
  rw [decide_eq_true_eq] at hp
  have hbd : ∀ {q}, q < l.length → l.getD q 0 = n → q ∈ od l := fun {q} hq e => od_mem.2 ⟨hq, by omega, by have := hb l[q] (List.getElem_mem hq); rw [getD_eq hq]; exact this⟩
  have ii := hbd hi h1
  have ij := hbd hm hp.2.1
  by_cases e : j = i
  · rw [e]
  rcases bf_total (l := l) e with hb1 | hb1
  · have := front_gt ii ij (by omega) hb1; omega
  have := front_gt ij ii (by omega) hb1; omega
end Pf
end Go.Proofs.YtajklleiifhipaaGreatDoor
namespace Go.Proofs.YtajklleiifhipaaGreatDoor
open Sym
namespace Df
noncomputable def fc (l : List Nat) (n : Nat) : Nat := Pf.np l n 0
def cn (l : List Nat) (n : Nat) : Nat := Pf.cnt l l.length n
theorem np_all {l : List Nat} {n : Nat} (h0 : 1 ≤ n) (hn : n ≤ 30) : ∀ i : Nat, i ≤ l.length → Pf.np l n i = fc l n + Pf.cnt l i n
  | 0, _ => by rw [Pf.cnt_zero]; rfl
  | i + 1, hi => by
    have ih := np_all (l := l) h0 hn i (by omega)
    have hi' : i < l.length := by omega
    by_cases e : (l[i]'hi') = n
    · have h1 := (Pf.np_put hi' (by omega) (by omega)).2.1
      rw [e] at h1
      rw [h1, ih, Pf.cnt_succ hi', if_pos ⟨by omega, e.symm⟩]; omega
    have h1 := Pf.np_skip (n := n) hi' e
    unfold Pf.np at ih ⊢
    rw [h1]; exact ih
theorem fc_one (l : List Nat) : fc l 1 = 0 := by
 unfold fc; rw [← Pf.np_zero (by decide) (by decide), Pf.nr_one]
theorem fc_succ {l : List Nat} {n : Nat} (h0 : 1 ≤ n) (hn : n ≤ 29) : fc l (n + 1) = 2 * (fc l n + cn l n) := by
 unfold fc
 rw [← Pf.np_zero (by omega) (by omega), ← Pf.np_end l (by omega), np_all h0 (by omega) _ (Nat.le_refl _)]; rfl
theorem code_cnt {l : List Nat} {s n : Nat} (hs : s < l.length) (h : l.getD s 0 = n) (h0 : 1 ≤ n) (hn : n ≤ 30) : Pf.code l s = fc l n + Pf.cnt l s n ∧ Pf.cnt l s n < cn l n ∧ (Pf.od l)[Pf.nx l n + Pf.cnt l s n]? = some s := by
 rw [Pf.getD_eq hs] at h
 subst h
 refine ⟨?_, ?_, Pf.od_place hs h0 hn⟩
 · rw [← (Pf.np_put hs h0 hn).1, np_all h0 hn _ (by omega)]
 have h1 := Pf.od_place hs h0 hn
 have hlt := (List.getElem?_eq_some_iff.1 h1).1
 have he := (List.getElem?_eq_some_iff.1 h1).2
 have h2 := (Pf.place hlt (show l[s] + 1 ≤ 31 by omega)).2 (by rw [he, Pf.getD_eq hs]; omega)
 rw [Pf.nx_succ] at h2; unfold cn; omega
theorem nx_run {l : List Nat} {n : Nat} (hn : n ≤ 30) : Pf.nx l n + cn l n ≤ (Pf.od l).length := by
 have := Pf.nx_le (l := l) (show n + 1 ≤ 31 by omega)
 rw [Pf.nx_succ] at this; exact this
theorem fnd_in {l : List Nat} {v n : Nat} (hb : ∀ n ∈ l, n ≤ 30) (h0 : 1 ≤ n) (hn : n ≤ 30) (h1 : fc l n ≤ v) (h2 : v < fc l n + cn l n) : Pf.fnd l v n = some ((Pf.od l).getD (Pf.nx l n + (v - fc l n)) 0) := by
 have hr := nx_run (l := l) hn
 have hk : Pf.nx l n + (v - fc l n) < (Pf.od l).length := by omega
 have hg : l.getD ((Pf.od l).getD (Pf.nx l n + (v - fc l n)) 0) 0 = n := (Pf.place_eq hk hn (by omega)).1 (by rw [Pf.nx_succ]; unfold cn at h2; omega)
 have hm := Pf.od_mem.1 (List.getElem_mem hk)
 rw [← Pf.getD_eq hk] at hm
 obtain ⟨k1, k2, k3⟩ := code_cnt hm.1 hg h0 hn
 obtain ⟨k4, k5⟩ := List.getElem?_eq_some_iff.1 k3
 have e3 := (Pf.od_nodup l).idxOf_getElem _ k4
 have e4 := (Pf.od_nodup l).idxOf_getElem _ hk
 rw [k5, Pf.getD_eq hk] at e3
 have : Pf.cnt l ((Pf.od l).getD (Pf.nx l n + (v - fc l n)) 0) n = v - fc l n := by
  rw [Pf.getD_eq hk] at k1 k2 ⊢
  omega
 refine Pf.fnd_some hb hm.1 (by omega) hg ?_
 rw [k1, this]; omega
theorem fnd_out {l : List Nat} {v n : Nat} (h0 : 1 ≤ n) (hn : n ≤ 30) (h2 : fc l n + cn l n ≤ v) : Pf.fnd l v n = none := by
 refine Pf.fnd_none.2 fun i hi ⟨g0, g1, g2⟩ => ?_
 obtain ⟨k1, k2, k3⟩ := code_cnt hi g1 h0 hn
 omega
def rbits (n : Nat) (B : List Bool) (a : Nat) : Except Int (Nat × Nat) := if B.length < a + n then .error 10 else .ok (bs B a n, a + n)
noncomputable def rgo (l : List Nat) (B : List Bool) (a : Nat) : Nat → Nat → Except Int (Nat × Nat)
 | 0, _ => .error 9
 | f + 1, n => if B.length ≤ a + n then .error 10 else match Pf.fnd l (tkv B a (n + 1)) (n + 1) with
  | some i => .ok (i, a + n + 1)
  | none => rgo l B a f (n + 1)
def mx (l : List Nat) : Nat := l.foldl max 0
theorem mx_ge : ∀ (l : List Nat) (z : Nat), z ≤ l.foldl max z ∧ ∀ n ∈ l, n ≤ l.foldl max z
 | [], z => ⟨Nat.le_refl _, fun n hn => by cases hn⟩
 | a :: l, z => by
  obtain ⟨h1, h2⟩ := mx_ge l (max z a)
  refine ⟨Nat.le_trans (Nat.le_max_left _ _) h1, fun n hn => ?_⟩
  rcases List.mem_cons.1 hn with rfl | hn
  · exact Nat.le_trans (Nat.le_max_right _ _) h1
  exact h2 n hn
theorem mx_le {l : List Nat} {n : Nat} (h : n ∈ l) : n ≤ mx l := (mx_ge l 0).2 n h
theorem mx_bd {B : Nat} : ∀ (l : List Nat) (z : Nat), z ≤ B → (∀ n ∈ l, n ≤ B) → l.foldl max z ≤ B
 | [], z, h, _ => h
 | a :: l, z, h, hl => mx_bd l (max z a) (Nat.max_le.2 ⟨h, hl a (by simp)⟩) fun n hn => hl n (by simp [hn])
noncomputable def rsym (l : List Nat) (B : List Bool) (a : Nat) : Except Int (Nat × Nat) := rgo l B a (mx l) 0
theorem btv_take {c n : Nat} (hc : c < 2 ^ n) : ∀ {j : Nat}, j ≤ n → bvl ((btv c n).take j) = c / 2 ^ (n - j) := by
 intro j
 induction j with
 | zero => intro _; rw [Nat.sub_zero, Nat.div_eq_of_lt hc]; rfl
 | succ j ih =>
  intro hj
  have h1 := ih (by omega)
  have hl : j < (btv c n).length := by rw [btv_len]; omega
  have hg : (btv c n)[j] = bt c n j := by simp [btv, tab]
  unfold bvl at h1 ⊢
  rw [← List.take_append_getElem hl, List.foldl_append, h1, hg]
  show 2 * (c / 2 ^ (n - j)) + (if bt c n j = true then 1 else 0) = _
  have e : c / 2 ^ (n - j) = c / 2 ^ (n - (j + 1)) / 2 := by rw [Nat.div_div_eq_div_mul, ← Nat.pow_succ]; congr 2; omega
  have e2 : n - 1 - j = n - (j + 1) := by omega
  rw [e]
  unfold bt
  rw [e2]
  by_cases h : c / 2 ^ (n - (j + 1)) % 2 = 1
  · rw [if_pos (by simpa using h)]; omega
  rw [if_neg (by simpa using h)]; omega
theorem tkv_bits {b r : List Bool} {a c n j : Nat} (hb : b.drop a = btv c n ++ r) (hc : c < 2 ^ n) (hj : j ≤ n) : tkv b a j = c / 2 ^ (n - j) := by
 unfold tkv
 rw [hb, List.take_append_of_le_length (by rw [btv_len]; omega)]
 exact btv_take hc hj
structure Code (l : List Nat) : Prop where
 le : ∀ n ∈ l, n ≤ 15
 kr : Pf.kr l ≤ 1073741824
theorem Code.b30 {l : List Nat} (h : Code l) : ∀ n ∈ l, n ≤ 30 := fun n hn => Nat.le_trans (h.le n hn) (by decide)
theorem rsym_ok {l : List Nat} {B r : List Bool} {a s : Nat} (hc : Code l) (hs : s < l.length) (h0 : 1 ≤ l.getD s 0) (hb : B.drop a = btv (Pf.code l s) (l.getD s 0) ++ r) : rsym l B a = .ok (s, a + l.getD s 0) := by
 have hb30 := hc.b30
 have hso : s ∈ Pf.od l := Pf.od_mem.2 ⟨hs, h0, by have := hb30 l[s] (List.getElem_mem hs); rw [Pf.getD_eq hs]; exact this⟩
 have hcl := Pf.code_lt hb30 hc.kr hso
 have hmx : l.getD s 0 ≤ mx l := by rw [Pf.getD_eq hs]; exact mx_le (List.getElem_mem hs)
 have hlen : a + l.getD s 0 ≤ B.length := by
  have := congrArg List.length hb
  rw [List.length_drop, List.length_append, btv_len] at this; omega
 have key : ∀ k j, j + k + 1 = l.getD s 0 → rgo l B a (mx l - j) j = .ok (s, a + l.getD s 0) := by
  intro k
  induction k with
  | zero =>
   intro j hj
   obtain ⟨f, hf⟩ : ∃ f, mx l - j = f + 1 := ⟨mx l - j - 1, by omega⟩
   have ht := tkv_bits hb hcl (show j + 1 ≤ l.getD s 0 by omega)
   rw [show l.getD s 0 - (j + 1) = 0 by omega, Nat.pow_zero, Nat.div_one] at ht
   rw [hf, rgo, if_neg (by omega), Pf.fnd_some (i := s) hb30 hs (by omega) (by omega) ht.symm]
   show Except.ok (s, a + j + 1) = _
   rw [show a + j + 1 = a + l.getD s 0 by omega]
  | succ k ih =>
   intro j hj
   obtain ⟨f, hf⟩ : ∃ f, mx l - j = f + 1 := ⟨mx l - j - 1, by omega⟩
   have ht := tkv_bits hb hcl (show j + 1 ≤ l.getD s 0 by omega)
   have hn : Pf.fnd l (tkv B a (j + 1)) (j + 1) = none := Pf.fnd_none.2 fun i hi ⟨g0, g1, g2⟩ => by
    have hio : i ∈ Pf.od l := Pf.od_mem.2 ⟨hi, by omega, by have := hb30 l[i] (List.getElem_mem hi); rw [Pf.getD_eq hi]; exact this⟩
    have := Pf.front_lt hio hso (by omega) (.inl (by omega))
    rw [g1, g2, ht] at this; omega
   rw [hf, rgo, if_neg (by omega), hn]
   show rgo l B a f (j + 1) = _
   rw [show f = mx l - (j + 1) by omega]
   exact ih (j + 1) (by omega)
 obtain ⟨k, hk⟩ : ∃ k, 0 + k + 1 = l.getD s 0 := ⟨l.getD s 0 - 1, by omega⟩
 exact key k 0 hk
theorem rbits_ok {B r : List Bool} {a v n : Nat} (hb : B.drop a = low v n ++ r) (hv : v < 2 ^ n) (ha : a ≤ B.length) : rbits n B a = .ok (v, a + n) := by
 have : ¬ B.length < a + n := by
  have := congrArg List.length hb
  rw [List.length_drop, List.length_append, low_len] at this; omega
 rw [rbits, if_neg this, bs_low hb hv]
def Cut {α : Type} (f : List Bool → Nat → Except Int (α × Nat)) : Prop := ∀ (B : List Bool) (a : Nat) (x : α) (e : Nat), a ≤ B.length → f B a = .ok (x, e) →
 a ≤ e ∧ e ≤ B.length ∧ ∀ m, a ≤ m → (m < e → f (B.take m) a = .error 10) ∧ (e ≤ m → f (B.take m) a = .ok (x, e))
def bnd {α β : Type} (f : List Bool → Nat → Except Int (α × Nat)) (g : α → List Bool → Nat → Except Int (β × Nat)) (B : List Bool) (a : Nat) : Except Int (β × Nat) :=
 match f B a with
 | .error e => .error e
 | .ok (x, a') => g x B a'
theorem bnd_ok {α β : Type} {f : List Bool → Nat → Except Int (α × Nat)} {g : α → List Bool → Nat → Except Int (β × Nat)} {B : List Bool} {a a' : Nat} {x : α} (h : f B a = .ok (x, a')) : bnd f g B a = g x B a' := by unfold bnd; rw [h]
theorem bnd_err {α β : Type} {f : List Bool → Nat → Except Int (α × Nat)} {g : α → List Bool → Nat → Except Int (β × Nat)} {B : List Bool} {a : Nat} {e : Int} (h : f B a = .error e) : bnd f g B a = .error e := by unfold bnd; rw [h]
theorem Cut.bnd {α β : Type} {f : List Bool → Nat → Except Int (α × Nat)} {g : α → List Bool → Nat → Except Int (β × Nat)} (hf : Cut f) (hg : ∀ x, Cut (g x)) : Cut (bnd f g) := by
  intro B a y e ha h
  cases h1 : f B a with
  | error z => rw [bnd_err h1] at h; cases h
  | ok p =>
    obtain ⟨x, a'⟩ := p
    rw [bnd_ok h1] at h
    obtain ⟨f1, f2, f3⟩ := hf B a x a' ha h1
    obtain ⟨g1, g2, g3⟩ := hg x B a' y e f2 h
    refine ⟨by omega, g2, fun m hm => ⟨fun hlt => ?_, fun hle => ?_⟩⟩
    · by_cases c : m < a'
      · exact bnd_err ((f3 m hm).1 c)
      rw [bnd_ok ((f3 m hm).2 (by omega))]; exact (g3 m (by omega)).1 hlt
    rw [bnd_ok ((f3 m hm).2 (by omega))]; exact (g3 m (by omega)).2 hle
theorem Cut.ok {α : Type} (x : α) : Cut (fun _ a => .ok (x, a)) := by
 intro B a y e ha h
 have h : Except.ok (x, a) = (Except.ok (y, e) : Except Int (α × Nat)) := h
 cases h
 exact ⟨Nat.le_refl _, ha, fun m hm => ⟨fun h => by omega, fun _ => rfl⟩⟩
theorem Cut.fail {α : Type} (z : Int) : Cut (α := α) (fun _ _ => .error z) := by intro B a y e ha h; cases h
theorem take_getD {B : List Bool} {m i : Nat} (h : i < m) : (B.take m).getD i false = B.getD i false := by
 rw [List.getD_eq_getElem?_getD, List.getElem?_take_of_lt h, ← List.getD_eq_getElem?_getD]
theorem cut_bits (n : Nat) : Cut (rbits n) := by
 intro B a x e ha h
 unfold rbits at h
 split at h
 · cases h
 cases h
 refine ⟨by omega, by omega, fun m hm => ⟨fun hlt => ?_, fun hle => ?_⟩⟩
 · rw [rbits, if_pos (by rw [List.length_take]; omega)]
 rw [rbits, if_neg (by rw [List.length_take]; omega)]
 have : bs (B.take m) a n = bs B a n := bv_congr fun i hi => take_getD (by omega)
 rw [this]
theorem tkv_take {B : List Bool} {a n m : Nat} (h : a + n ≤ m) : tkv (B.take m) a n = tkv B a n := by
 unfold tkv
 rw [List.drop_take, List.take_take, Nat.min_eq_left (by omega)]
theorem cut_rgo (l : List Nat) (a : Nat) : ∀ (f n : Nat) (B : List Bool) (x e : Nat), a + n ≤ B.length → rgo l B a f n = .ok (x, e) → a + n ≤ e ∧ e ≤ B.length ∧ a + n < e ∧ ∀ m, a + n ≤ m → (m < e → rgo l (B.take m) a f n = .error 10) ∧ (e ≤ m → rgo l (B.take m) a f n = .ok (x, e))
  | 0, n, B, x, e, ha, h => by rw [rgo] at h; cases h
  | f + 1, n, B, x, e, ha, h => by
    rw [rgo] at h
    split at h
    · cases h
    rename_i hl
    have hstep : ∀ m, a + n < m → rgo l (B.take m) a (f + 1) n = match Pf.fnd l (tkv B a (n + 1)) (n + 1) with | some i => .ok (i, a + n + 1) | none => rgo l (B.take m) a f (n + 1) := fun m hm => by
      rw [rgo, if_neg (by rw [List.length_take]; omega), tkv_take (by omega)]
    have hstop : ∀ m, a + n ≤ m → m < a + n + 1 → rgo l (B.take m) a (f + 1) n = .error 10 := fun m h1 h2 => by
      rw [rgo, if_pos (by rw [List.length_take]; omega)]
    cases hf : Pf.fnd l (tkv B a (n + 1)) (n + 1) with
    | some i =>
      rw [hf] at h
      have h : Except.ok (i, a + n + 1) = (Except.ok (x, e) : Except Int (Nat × Nat)) := h
      cases h
      refine ⟨by omega, by omega, by omega, fun m hm => ⟨fun hlt => hstop m hm hlt, fun hle => ?_⟩⟩
      rw [hstep m (by omega), hf]
    | none =>
      rw [hf] at h
      have h : rgo l B a f (n + 1) = .ok (x, e) := h
      obtain ⟨k1, k2, k3, k4⟩ := cut_rgo l a f (n + 1) B x e (by omega) h
      refine ⟨by omega, k2, by omega, fun m hm => ⟨fun hlt => ?_, fun hle => ?_⟩⟩
      · by_cases c : m < a + n + 1
        · exact hstop m hm c
        rw [hstep m (by omega), hf]; exact (k4 m (by omega)).1 hlt
      rw [hstep m (by omega), hf]; exact (k4 m (by omega)).2 hle
theorem cut_sym (l : List Nat) : Cut (rsym l) := by
 intro B a x e ha h
 obtain ⟨h1, h2, h3, h4⟩ := cut_rgo l a (mx l) 0 B x e ha h
 exact ⟨h1, h2, h4⟩
theorem rsym_adv {l : List Nat} {B : List Bool} {a x e : Nat} (ha : a ≤ B.length) (h : rsym l B a = .ok (x, e)) : a < e ∧ e ≤ B.length := by
 obtain ⟨h1, h2, h3, h4⟩ := cut_rgo l a (mx l) 0 B x e ha h
 exact ⟨by omega, h2⟩
noncomputable def rmt (D : List Nat) (s : Nat) : List Bool → Nat → Except Int ((Nat × Nat) × Nat) :=
 bnd (rbits (lxt s)) fun x => bnd (rsym D) fun d => if 30 ≤ d then fun _ _ => .error 9 else bnd (rbits (dxt d)) fun y => fun _ a => .ok ((lls s + x, dls d + y), a)
theorem cut_mt (D : List Nat) (s : Nat) : Cut (rmt D s) := by
 unfold rmt
 refine (cut_bits _).bnd fun x => (cut_sym D).bnd fun d => ?_
 split
 · exact Cut.fail 9
 exact (cut_bits _).bnd fun y => Cut.ok _
noncomputable def tk (L D : List Nat) (lim : Nat) (B : List Bool) (a : Nat) (out : List UInt8) : Except Int (List UInt8 × Nat) :=
 match rsym L B a with
 | .error e => .error e
 | .ok (s, a1) =>
  if s = 256 then .ok (out, a1) else if 285 < s then .error 9 else if 256 < s then
   (match rmt D s B a1 with
   | .error e => .error e
   | .ok ((n, d), a2) => if out.length < d then .error 28 else if lim < out.length + n then .error 4 else if h : a < a2 ∧ a2 ≤ B.length then tk L D lim B a2 (rp d out n) else .error 0)
  else if lim ≤ out.length then .error 4 else if h : a < a1 ∧ a1 ≤ B.length then tk L D lim B a1 (out ++ [UInt8.ofNat s]) else .error 0
termination_by B.length - a
theorem tk_err {L D : List Nat} {lim : Nat} {B : List Bool} {a : Nat} {out : List UInt8} {e : Int} (h : rsym L B a = .error e) : tk L D lim B a out = .error e := by rw [tk, h]
theorem tk_end {L D : List Nat} {lim : Nat} {B : List Bool} {a a1 : Nat} {out : List UInt8} (h : rsym L B a = .ok (256, a1)) : tk L D lim B a out = .ok (out, a1) := by rw [tk, h]; simp
theorem tk_bad {L D : List Nat} {lim : Nat} {B : List Bool} {a a1 s : Nat} {out : List UInt8} (h : rsym L B a = .ok (s, a1)) (h2 : 285 < s) : tk L D lim B a out = .error 9 := by
 rw [tk, h]; simp only; rw [if_neg (by omega), if_pos h2]
theorem tk_lit {L D : List Nat} {lim : Nat} {B : List Bool} {a a1 s : Nat} {out : List UInt8} (ha : a ≤ B.length) (h : rsym L B a = .ok (s, a1)) (h2 : s < 256) : tk L D lim B a out = if lim ≤ out.length then .error 4 else tk L D lim B a1 (out ++ [UInt8.ofNat s]) := by
 rw [tk, h]; simp only; rw [if_neg (by omega), if_neg (by omega), if_neg (by omega), dif_pos (rsym_adv ha h)]
theorem rmt_adv {D : List Nat} {B : List Bool} {a s e : Nat} {x : Nat × Nat} (ha : a ≤ B.length) (h : rmt D s B a = .ok (x, e)) : a ≤ e ∧ e ≤ B.length := ⟨((cut_mt D s) B a x e ha h).1, ((cut_mt D s) B a x e ha h).2.1⟩
theorem tk_merr {L D : List Nat} {lim : Nat} {B : List Bool} {a a1 s : Nat} {out : List UInt8} {e : Int} (h : rsym L B a = .ok (s, a1)) (h2 : 256 < s) (h3 : s ≤ 285) (h4 : rmt D s B a1 = .error e) : tk L D lim B a out = .error e := by
 rw [tk, h]; simp only; rw [if_neg (by omega), if_neg (by omega), if_pos h2, h4]
theorem tk_mat {L D : List Nat} {lim : Nat} {B : List Bool} {a a1 a2 s n d : Nat} {out : List UInt8} (ha : a ≤ B.length) (h : rsym L B a = .ok (s, a1)) (h2 : 256 < s) (h3 : s ≤ 285) (h4 : rmt D s B a1 = .ok ((n, d), a2)) :
  tk L D lim B a out = if out.length < d then .error 28 else if lim < out.length + n then .error 4 else tk L D lim B a2 (rp d out n) := by
 have h5 := rsym_adv ha h
 have h6 := rmt_adv h5.2 h4
 rw [tk, h]; simp only; rw [if_neg (by omega), if_neg (by omega), if_pos h2, h4]; simp only; rw [dif_pos (by omega)]
theorem tk_cut (L D : List Nat) (lim : Nat) (B : List Bool) (a : Nat) (out : List UInt8) (x : List UInt8) (e : Nat) (ha : a ≤ B.length) (h : tk L D lim B a out = .ok (x, e)) :
    a ≤ e ∧ e ≤ B.length ∧ ∀ m, a ≤ m → (m < e → tk L D lim (B.take m) a out = .error 10) ∧ (e ≤ m → tk L D lim (B.take m) a out = .ok (x, e)) := by
  cases h1 : rsym L B a with
  | error z => rw [tk_err h1] at h; cases h
  | ok p =>
    obtain ⟨s, a1⟩ := p
    obtain ⟨f1, f2, f3⟩ := cut_sym L B a s a1 ha h1
    have hadv := rsym_adv ha h1
    by_cases c1 : s = 256
    · subst c1
      rw [tk_end h1] at h
      cases h
      exact ⟨f1, f2, fun m hm => ⟨fun hlt => tk_err ((f3 m hm).1 hlt), fun hle => tk_end ((f3 m hm).2 hle)⟩⟩
    by_cases c2 : 285 < s
    · rw [tk_bad h1 c2] at h; cases h
    by_cases c3 : 256 < s
    · cases h2 : rmt D s B a1 with
      | error z => rw [tk_merr h1 c3 (by omega) h2] at h; cases h
      | ok p =>
        obtain ⟨⟨n, d⟩, a2⟩ := p
        obtain ⟨g1, g2, g3⟩ := cut_mt D s B a1 (n, d) a2 f2 h2
        rw [tk_mat ha h1 c3 (by omega) h2] at h
        split at h
        · cases h
        rename_i hd
        split at h
        · cases h
        rename_i hl
        obtain ⟨k1, k2, k3⟩ := tk_cut L D lim B a2 (rp d out n) x e g2 h
        refine ⟨by omega, k2, fun m hm => ⟨fun hlt => ?_, fun hle => ?_⟩⟩
        · by_cases b1 : m < a1
          · exact tk_err ((f3 m hm).1 b1)
          have r1 := (f3 m hm).2 (by omega)
          by_cases b2 : m < a2
          · exact tk_merr r1 c3 (by omega) ((g3 m (by omega)).1 b2)
          rw [tk_mat (by rw [List.length_take]; omega) r1 c3 (by omega) ((g3 m (by omega)).2 (by omega)), if_neg hd, if_neg hl]
          exact (k3 m (by omega)).1 hlt
        rw [tk_mat (by rw [List.length_take]; omega) ((f3 m hm).2 (by omega)) c3 (by omega) ((g3 m (by omega)).2 (by omega)), if_neg hd, if_neg hl]
        exact (k3 m (by omega)).2 hle
    rw [tk_lit ha h1 (by omega)] at h
    split at h
    · cases h
    rename_i hl
    obtain ⟨k1, k2, k3⟩ := tk_cut L D lim B a1 _ x e f2 h
    refine ⟨by omega, k2, fun m hm => ⟨fun hlt => ?_, fun hle => ?_⟩⟩
    · by_cases b1 : m < a1
      · exact tk_err ((f3 m hm).1 b1)
      rw [tk_lit (by rw [List.length_take]; omega) ((f3 m hm).2 (by omega)) (by omega), if_neg hl]
      exact (k3 m (by omega)).1 hlt
    rw [tk_lit (by rw [List.length_take]; omega) ((f3 m hm).2 (by omega)) (by omega), if_neg hl]
    exact (k3 m (by omega)).2 hle
termination_by B.length - a
decreasing_by all_goals omega
def Has (L D : List Nat) (t : Nat) : Prop := if t ≤ 255 then 1 ≤ L.getD t 0 else 1 ≤ L.getD (lsy (t / 65536)) 0 ∧ 1 ≤ D.getD (dsy (t % 65536)) 0
theorem drop_more {B m r : List Bool} {a : Nat} (h : B.drop a = m ++ r) : B.drop (a + m.length) = r := by
 rw [← List.drop_drop, h, List.drop_left]
theorem lt_gd {l : List Nat} {s : Nat} (h : 1 ≤ l.getD s 0) : s < l.length := by
 by_cases c : s < l.length
 · exact c
 rw [List.getD_eq_getElem?_getD, List.getElem?_eq_none (by omega)] at h; simp at h
theorem tk_toks {L D : List Nat} {l : List UInt8} {lim : Nat} {B r : List Bool} (hL : Code L) (hD : Code D) (hl : l.length ≤ 32768) (hend : 1 ≤ L.getD 256 0) (i a : Nat) (hi : i ≤ l.length) (hil : i ≤ lim)
    (hu : ∀ t ∈ toks l i, Has L D t) (hB : B.drop a = tbs L D (toks l i) ++ (btv (Pf.code L 256) (L.getD 256 0) ++ r)) (ha : a ≤ B.length) :
    tk L D lim B a (l.take i) = if l.length ≤ lim then .ok (l, a + (tbs L D (toks l i)).length + L.getD 256 0) else .error 4 := by
  by_cases h : i < l.length
  · have htl : (l.take i).length = i := by rw [List.length_take]; omega
    by_cases h2 : (bst l i).1 = 0
    · have hb8 := (l.getD i 0).toNat_lt
      rw [toks_lit h h2] at hu hB ⊢
      have hu1 := hu _ List.mem_cons_self
      unfold Has at hu1
      rw [if_pos (by omega)] at hu1
      have htb : tbs L D ((l.getD i 0).toNat :: toks l (i + 1)) = btv (Pf.code L (l.getD i 0).toNat) (L.getD (l.getD i 0).toNat 0) ++ tbs L D (toks l (i + 1)) := by
        unfold tbs; rw [List.flatMap_cons, tb, if_pos (by omega)]
      rw [htb, List.append_assoc] at hB
      have hr := rsym_ok hL (lt_gd hu1) hu1 hB
      have hdm := drop_more hB
      rw [btv_len] at hdm
      have hadv := rsym_adv ha hr
      rw [tk_lit ha hr (by omega), htl]
      by_cases c : lim ≤ i
      · rw [if_pos c, if_neg (by omega)]
      have e : l.take i ++ [UInt8.ofNat (l.getD i 0).toNat] = l.take (i + 1) := by
        rw [UInt8.ofNat_toNat, gdU h]; exact List.take_append_getElem h
      rw [if_neg c, e, tk_toks hL hD hl hend (i + 1) _ (by omega) (by omega) (fun t ht => hu t (List.mem_cons_of_mem _ ht)) hdm hadv.2]
      rw [htb, List.length_append, btv_len]
      split
      · congr 2; omega
      rfl
    rw [toks_mat h h2] at hu hB ⊢
    rcases bst_good l i with hz | ⟨g1, g2, g3, g4, g5, g6⟩
    · rw [hz] at h2; exact (h2 rfl).elim
    have hu1 := hu _ List.mem_cons_self
    obtain ⟨t, ht⟩ : ∃ t, t = (bst l i).1 * 65536 + (bst l i).2 := ⟨_, rfl⟩
    have e1 : t / 65536 = (bst l i).1 := by omega
    have e2 : t % 65536 = (bst l i).2 := by omega
    rw [← ht] at hu1 hB ⊢
    unfold Has at hu1
    rw [if_neg (by omega)] at hu1
    obtain ⟨s1, s2, s3, s4⟩ := lsy_spec (n := t / 65536) (by omega) (by omega)
    obtain ⟨d1, d2, d3⟩ := dsy_spec (n := t % 65536) (by omega) (by omega)
    have htb : tbs L D (t :: toks l (i + (bst l i).1)) = btv (Pf.code L (lsy (t / 65536))) (L.getD (lsy (t / 65536)) 0) ++ (low (t / 65536 - lls (lsy (t / 65536))) (lxt (lsy (t / 65536)))
        ++ (btv (Pf.code D (dsy (t % 65536))) (D.getD (dsy (t % 65536)) 0) ++ (low (t % 65536 - dls (dsy (t % 65536))) (dxt (dsy (t % 65536))) ++ tbs L D (toks l (i + (bst l i).1))))) := by
      unfold tbs; rw [List.flatMap_cons, tb, if_neg (by omega)]; simp only [List.append_assoc]
    rw [htb] at hB ⊢
    simp only [List.append_assoc] at hB
    have r1 := rsym_ok hL (lt_gd hu1.1) hu1.1 hB
    have k1 := drop_more hB
    rw [btv_len] at k1
    have v1 := rsym_adv ha r1
    have r2 := rbits_ok k1 (by omega) v1.2
    have k2 := drop_more k1
    rw [low_len] at k2
    have v2 := (cut_bits _ B _ _ _ v1.2 r2).2.1
    have r3 := rsym_ok hD (lt_gd hu1.2) hu1.2 k2
    have k3 := drop_more k2
    rw [btv_len] at k3
    have v3 := rsym_adv v2 r3
    have r4 := rbits_ok k3 (by omega) v3.2
    have k4 := drop_more k3
    rw [low_len] at k4
    have v4 := (cut_bits _ B _ _ _ v3.2 r4).2.1
    have rm : rmt D (lsy (t / 65536)) B (a + L.getD (lsy (t / 65536)) 0) = .ok (((bst l i).1, (bst l i).2), a + L.getD (lsy (t / 65536)) 0 + lxt (lsy (t / 65536)) + D.getD (dsy (t % 65536)) 0 + dxt (dsy (t % 65536))) := by
      unfold rmt
      rw [bnd_ok r2, bnd_ok r3, if_neg (by omega), bnd_ok r4]
      congr 3 <;> omega
    rw [tk_mat ha r1 (by omega) (by omega) rm, htl, if_neg (by omega)]
    by_cases c : lim < i + (bst l i).1
    · rw [if_pos c, if_neg (by omega)]
    rw [if_neg c, rp_take g3 g4 _ g5 g6, tk_toks hL hD hl hend (i + (bst l i).1) _ g5 (by omega) (fun t ht => hu t (List.mem_cons_of_mem _ ht)) k4 v4]
    simp only [List.length_append, btv_len, low_len]
    split
    · congr 2; omega
    rfl
  obtain rfl : i = l.length := by omega
  rw [toks_end (Nat.le_refl _)] at hB ⊢
  have hB : B.drop a = btv (Pf.code L 256) (L.getD 256 0) ++ r := hB
  rw [tk_end (rsym_ok hL (lt_gd hend) hend hB), List.take_length, if_pos hil]; rfl
termination_by l.length - i
decreasing_by all_goals omega
end Df
end Go.Proofs.YtajklleiifhipaaGreatDoor
