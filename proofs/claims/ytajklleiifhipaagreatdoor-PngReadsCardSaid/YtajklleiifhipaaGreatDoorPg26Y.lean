/- the reference's reader: errors, numbers, bytes. -/
import Derived.Test.YtajklleiifhipaaGreatDoorY0
import Derived.Test.YtajklleiifhipaaGreatDoorY5
import Derived.Test.YtajklleiifhipaaGreatDoorY16
import Derived.Test.YtajklleiifhipaaGreatDoorDg29Y
set_option linter.unusedSimpArgs false
set_option linter.unusedVariables false
namespace Go.Proofs.YtajklleiifhipaaGreatDoor
open Go.RowKit Sym
def fst (e z : Int) : Int := if e = 0 then z else e
theorem fst_nz {e z : Int} (h : e ≠ 0) : fst e z = e := if_neg h
theorem fst_z (z : Int) : fst 0 z = z := if_pos rfl
def RS {α : Type} (e : Int) (r : Except Int (α × Nat)) (x z : α) (a a' : Nat) (e' : Int) : Prop :=
 (e ≠ 0 ∧ e' = e ∧ x = z) ∨ (e = 0 ∧ e' = 0 ∧ r = .ok (x, a')) ∨ (e = 0 ∧ e' ≠ 0 ∧ r = .error e' ∧ x = z)
theorem RS.old {α : Type} {e : Int} {r : Except Int (α × Nat)} {z : α} {a a' : Nat} (h : e ≠ 0) : RS e r z z a a' e := .inl ⟨h, rfl, rfl⟩
theorem RS.ok {α : Type} {e : Int} {r : Except Int (α × Nat)} {x z : α} {a a' : Nat} (he : e = 0) (h : r = .ok (x, a')) : RS e r x z a a' e := .inr (.inl ⟨he, he, h⟩)
theorem RS.err {α : Type} {e e' : Int} {r : Except Int (α × Nat)} {z : α} {a a' : Nat} (he : e = 0) (h : e' ≠ 0) (hr : r = .error e') : RS e r z z a a' e' := .inr (.inr ⟨he, h, hr, rfl⟩)
theorem RS.rds {α : Type} {r : Except Int (α × Nat)} {x z : α} {a a' : Nat} {e' : Int} (h : RS 0 r x z a a' e') : Rds r x a' e' := by
 rcases h with ⟨h, _⟩ | ⟨_, h1, h2⟩ | ⟨_, h1, h2, _⟩
 · exact (h rfl).elim
 · subst h1; exact .ok h2
 exact .err h1 h2
theorem RS.bad {α : Type} {e : Int} {r : Except Int (α × Nat)} {x z : α} {a a' : Nat} {e' : Int} (h : RS e r x z a a' e') (he : e ≠ 0) : e' = e ∧ x = z := by
 rcases h with ⟨_, h1, h2⟩ | ⟨h, _⟩ | ⟨h, _⟩
 · exact ⟨h1, h2⟩
 · exact (he h).elim
 exact (he h).elim
theorem RS.val {α : Type} {e : Int} {r : Except Int (α × Nat)} {x z : α} {a a' : Nat} {e' : Int} (h : RS e r x z a a' e') : x = z ∨ (e = 0 ∧ e' = 0 ∧ r = .ok (x, a')) := by
 rcases h with ⟨_, _, h⟩ | h | ⟨_, _, _, h⟩
 · exact .inl h
 · exact .inr h
 exact .inl h
theorem RS.bits_lt {n : Nat} {B : List Bool} {e : Int} {x a a' : Nat} {e' : Int} (h : RS e (Df.rbits n B a) x 0 a a' e') : x < 2 ^ n := by
 rcases h.val with rfl | ⟨_, _, h⟩
 · exact Nat.two_pow_pos n
 unfold Df.rbits at h
 split at h
 · cases h
 cases h; exact Df.bs_lt _ _ _
theorem fail34_ret (b a lim : Nat) (p vo : Value) (e z : Int) (w : World) (hs : Sep w [Rg.blk b 107 [p, i64 ((a : Nat) : Int), vo, i64 (lim : Int), i64 e]]) :
  Ret Tryz.prog 84 #[pv b, i64 z] w fun v w' => M w (fpU [Rg.blk b 107 [p, i64 ((a : Nat) : Int), vo, i64 (lim : Int), i64 e]]) w' [Rg.blk b 107 [p, i64 ((a : Nat) : Int), vo, i64 (lim : Int), i64 (fst e z)]] := by
 have hM := M.startS hs
 refine enter Tryz.func84 rfl (by kernel_rfl) Tryz.ntmps84 rfl $ Kb $ Km rfl $ E.nilc rfl rfl $ E.fld (o := 4) (sz := 0) rfl U107 rfl rfl (by kernel_rfl) rfl $ E.load rfl U26 rfl (hM.bcell 0 rfl rfl) rfl $ Kp rfl $ Ka $ C.cond' rfl (fun hC0 => ?_) (fun hC0 => ?_)
 ·
  obtain rfl : e = 0 := by omega
  refine C.region $ Kf rfl $ E.nilc rfl rfl $ E.fld (o := 4) (sz := 0) rfl U107 rfl rfl (by kernel_rfl) rfl $ E.storeM 0 hM rfl rfl rfl (by kernel_rfl) rfl rfl ?_
  intro w0 hM
  try dsimp only [Za, Zb, Zc, Zd, repl] at hM
  refine E.nil $ end0 rfl ?_
  exact hM
 refine C.skip $ end0 rfl ?_
 exact (by rw [fst_nz hC0]; exact hM)
set_option maxHeartbeats 2000000 in
set_option maxRecDepth 4000 in
theorem bits34_ret (n : Nat) (b a lim : Nat) (p vo : Value) (e : Int) (l : List UInt8) (w : World) (hs : Sep w [Rg.blk b 107 [p, i64 ((a : Nat) : Int), vo, i64 (lim : Int), i64 e]]) (hp : RdL u8 w p l) (ho : Off (fpU [Rg.blk b 107 [p, i64 ((a : Nat) : Int), vo, i64 (lim : Int), i64 e]]) p l) (ha : a ≤ 8 * l.length) (hl : l.length ≤ 1099511627776) (hn : n ≤ 30) :
  Ret Tryz.prog 80 #[pv b, i64 n] w fun v w' => ∃ (x a' : Nat) (e' : Int), v = i64 (x : Int) ∧ M w (fpU [Rg.blk b 107 [p, i64 ((a : Nat) : Int), vo, i64 (lim : Int), i64 e]]) w' [Rg.blk b 107 [p, i64 ((a' : Nat) : Int), vo, i64 (lim : Int), i64 e']] ∧ RS e (Df.rbits n (Df.ub l) a) x 0 a a' e' ∧ a ≤ a' ∧ a' ≤ 8 * l.length := by
 have hM := M.startS hs
 refine enter Tryz.func80 rfl (by kernel_rfl) Tryz.ntmps80 rfl $ Kb $ Kc rfl $ C.seq $ Kb $ Km rfl $ E.nilc rfl rfl $ E.fld (o := 4) (sz := 0) rfl U107 rfl rfl (by kernel_rfl) rfl $ E.load rfl U26 rfl (hM.bcell 0 rfl rfl) rfl $ Kp rfl $ Ka $ C.cond' rfl (fun hC0 => ?_) (fun hC0 => ?_)
 ·
  refine Kb $ Kc rfl $ C.ret $ X.retT $ ret1 rfl rfl ?_
  exact ⟨0, a, e, rfl, hM, .old hC0, Nat.le_refl _, ha⟩
 have he : e = 0 := by omega
 have hul := Df.ub_len l
 refine Kk $ C.seq $ C.seq $ C.drawn (by kernel_rfl) (by kernel_rfl) $ Q.mv rfl rfl $ Q.nilc rfl rfl $ Q.fld (o := 1) (sz := 0) rfl U107 rfl rfl (by kernel_rfl) rfl $ Q.load rfl U3 rfl (hM.bcell 0 rfl rfl) rfl $ Q.mv rfl rfl $ Q.addN (a := a) (b := n) rfl rfl (by omega) rfl $ Q.mv rfl rfl $ Q.nilc rfl rfl $ Q.fld (o := 0) (sz := 0) rfl U107 rfl rfl (by kernel_rfl) rfl $ Q.load rfl U22 rfl (hM.bcell 0 rfl rfl) rfl $ Q.lenv rfl (Rd.shape (hM.arg hp ho)) U22 rfl $ Q.mulN (a := 8) (b := l.length) rfl rfl (by omega) rfl $ Q.bin rfl rfl rfl rfl $ Q.nil $ fun w0 hx0 => ?_
 have hM := hM.ext hx0
 refine X.next $ C.cond' rfl (fun hC1 => ?_) (fun hC1 => ?_)
 ·
  refine Kb $ Km rfl $ E.call rfl rfl (fail34_ret b a lim p vo e 10 _ (hM.pick [0] (by decide)).sep) ?_
  rintro _ w1 m1
  rw [show fst e 10 = 10 by rw [he, fst_z]] at m1
  have hM := hM.calls [0] (by decide) rfl (by simp) m1
  try dsimp only [Za, Zb, Zc, Zd, repl] at hM
  try dsimp only [Za, Zb, Zc, Zd, repl] at hM
  refine Ke $ Kc rfl $ C.ret $ X.retT $ ret1 rfl rfl ?_
  exact ⟨0, a, 10, rfl, hM, .err he (by decide) (by rw [Df.rbits, if_pos (by omega)]), Nat.le_refl _, ha⟩
 have hr : Df.rbits n (Df.ub l) a = .ok (Df.bs (Df.ub l) a n, a + n) := by rw [Df.rbits, if_neg (by omega)]
 refine Kk $ Kb $ Kc rfl $ C.seq $ Kb $ Kc rfl $ C.block $ C.loop1 [(0, _), (1, _)] rfl (fun (i : Nat) => [(5, i64 (Df.bs (Df.ub l) a i : Int)), (6, i64 i)]) (fun (i : Nat) w' => M w (fpU [Rg.blk b 107 [p, i64 ((a : Nat) : Int), vo, i64 (lim : Int), i64 e]]) w' [Rg.blk b 107 [p, i64 ((a : Nat) : Int), vo, i64 (lim : Int), i64 e]] ∧ i ≤ n) (fun (i : Nat) => n - i) 0 ?_ ?_ ?_
 · exact Sub.cons rfl $ S1 rfl
 · exact ⟨hM, Nat.zero_le _⟩
 rintro i w2 ⟨hM, hi⟩
 refine C.seq $ Kb $ Kf rfl $ Kp rfl $ Ka $ C.cond' rfl (fun hC2 => ?_) (fun hC2 => ?_)
 ·
  have hi' : a + i < 8 * l.length := by omega
  have hb8 := (l[(a + i) / 8]'(by omega)).toNat_lt
  have hdv : (l[(a + i) / 8]'(by omega)).toNat / 2 ^ ((a + i) % 8) ≤ (l[(a + i) / 8]'(by omega)).toNat := Nat.div_le_self _ _
  have hbt := bit_at hi'
  have hbl := Df.bs_lt (Df.ub l) a i
  have hbs := Df.bs_succ (Df.ub l) a i
  have hp2 : 2 ^ i ≤ 2 ^ 29 := Nat.pow_le_pow_right (by decide) (by omega)
  have hp7 : 1 ≤ 2 ^ ((a + i) % 8) := Nat.one_le_two_pow
  have hx1 : (l[(a + i) / 8]'(by omega)).toNat / 2 ^ ((a + i) % 8) % 2 ≤ 1 := by omega
  have hm1 := Nat.mul_le_mul_right (2 ^ i) hx1
  refine Kk $ C.seq $ C.block $ Kb $ Km rfl $ E.nilc rfl rfl $ E.fld (o := 1) (sz := 0) rfl U107 rfl rfl (by kernel_rfl) rfl $ E.load rfl U3 rfl (hM.bcell 0 rfl rfl) rfl $ Km rfl $ E.addN (a := a) (b := i) rfl rfl (by omega) rfl $ Kc rfl $ C.drawn (by kernel_rfl) (by kernel_rfl) $ Q.mv rfl rfl $ Q.mv rfl rfl $ Q.nilc rfl rfl $ Q.fld (o := 0) (sz := 0) rfl U107 rfl rfl (by kernel_rfl) rfl $ Q.load rfl U22 rfl (hM.bcell 0 rfl rfl) rfl $ Q.mv rfl rfl $ Q.quo rfl rfl (by omega) (quoN (a := a + i) (b := 8) (by omega) (by omega)) rfl $ Q.idx1 (k := (a + i) / 8) rfl rfl (hM.arg hp ho) rfl (by omega) U22 (by kernel_rfl) rfl $ Q.load rfl U5 rfl ((hM.arg hp ho).cell (by omega)) rfl $ Q.conv rfl U5 U3 (IntWalk.i64_in _ (by omega)) rfl $ Q.mv rfl rfl $ Q.rem rfl rfl (by omega) (remN (a := a + i) (b := 8)) rfl ?_
  refine Q.call (v := i64 ((2 ^ ((a + i) % 8) : Nat) : Int)) rfl rfl (fun w' hw' => rpower_ret ((a + i) % 8) w' (by omega)) $ Q.quo rfl rfl (by omega) (quoN (a := (l[(a + i) / 8]'(by omega)).toNat) (b := 2 ^ ((a + i) % 8)) (by omega) (by omega)) rfl $ Q.rem rfl rfl (by omega) (remN (a := (l[(a + i) / 8]'(by omega)).toNat / 2 ^ ((a + i) % 8)) (b := 2)) rfl $ Q.mv rfl rfl $ Q.call (v := i64 ((2 ^ i : Nat) : Int)) rfl rfl (fun w' hw' => rpower_ret i w' (by omega)) $ Q.mulN (a := (l[(a + i) / 8]'(by omega)).toNat / 2 ^ ((a + i) % 8) % 2) (b := 2 ^ i) rfl rfl (by omega) rfl $ Q.addN (a := Df.bs (Df.ub l) a i) (b := (l[(a + i) / 8]'(by omega)).toNat / 2 ^ ((a + i) % 8) % 2 * 2 ^ i) rfl rfl (by omega) rfl $ Q.asg rfl rfl $ Q.nil $ fun w3 hx3 => ?_
  have hM := hM.ext hx3
  refine X.outN $ X.next $ C.region $ Km rfl $ E.addN (a := i) (b := 1) rfl rfl (by omega) rfl $ Kn rfl $ E.nil $ X.again1 (i + 1) (Sub.cons (look_val rfl (by rw [hbs, hbt, ite_mul])) $ S1 rfl) rfl ⟨hM, by omega⟩ (by omega)
 obtain rfl : i = n := by omega
 refine Kx $ Kb $ Kf rfl $ E.nilc rfl rfl $ E.fld (o := 1) (sz := 0) rfl U107 rfl rfl (by kernel_rfl) rfl $ E.load rfl U3 rfl (hM.bcell 0 rfl rfl) rfl $ Km rfl $ E.addN (a := a) (b := i) rfl rfl (by omega) rfl $ E.nilc rfl rfl $ E.fld (o := 1) (sz := 0) rfl U107 rfl rfl (by kernel_rfl) rfl $ E.storeM 0 hM rfl rfl rfl (by kernel_rfl) rfl rfl ?_
 intro w4 hM
 try dsimp only [Za, Zb, Zc, Zd, repl] at hM
 refine Ke $ Km rfl $ Kc rfl $ C.ret $ ret1 rfl rfl ?_
 exact ⟨_, a + i, e, rfl, hM, .ok he hr, by omega, by omega⟩
theorem put34_ret (b a lim : Nat) (p vo : Value) (out : List UInt8) (c : UInt8) (w : World) (hs : Sep w [Rg.blk b 107 [p, i64 ((a : Nat) : Int), vo, i64 (lim : Int), i64 0], Rg.sl u8 5 vo out]) (hl : lim ≤ 16777216) :
  Ret Tryz.prog 118 #[pv b, u8 c] w fun v w' => ∃ vn, M w (fpU [Rg.blk b 107 [p, i64 ((a : Nat) : Int), vo, i64 (lim : Int), i64 0], Rg.sl u8 5 vo out]) w' [Rg.blk b 107 [p, i64 ((a : Nat) : Int), vn, i64 (lim : Int), i64 (if lim ≤ out.length then 4 else 0)], Rg.sl u8 5 vn (if lim ≤ out.length then out else out ++ [c])] := by
 have hM := M.startS hs
 refine enter Tryz.func118 rfl (by kernel_rfl) Tryz.ntmps118 rfl $ C.cut0 [(0, _), (1, _)] rfl [] (fun w' => M w (fpU [Rg.blk b 107 [p, i64 ((a : Nat) : Int), vo, i64 (lim : Int), i64 0], Rg.sl u8 5 vo out]) w' [Rg.blk b 107 [p, i64 ((a : Nat) : Int), vo, i64 (lim : Int), i64 (if lim ≤ out.length then 4 else 0)], Rg.sl u8 5 vo out]) ?_ ?_
 ·
  refine C.seq $ C.drawn (by kernel_rfl) (by kernel_rfl) $ Q.mv rfl rfl $ Q.nilc rfl rfl $ Q.fld (o := 2) (sz := 0) rfl U107 rfl rfl (by kernel_rfl) rfl $ Q.load rfl U22 rfl (hM.bcell 0 rfl rfl) rfl $ Q.lenv rfl (Rd.shape (hM.sl 1 rfl)) U22 rfl $ Q.mv rfl rfl $ Q.nilc rfl rfl $ Q.fld (o := 3) (sz := 0) rfl U107 rfl rfl (by kernel_rfl) rfl $ Q.load rfl U3 rfl (hM.bcell 0 rfl rfl) rfl $ Q.bin rfl rfl rfl rfl $ Q.nil $ fun w0 hx0 => ?_
  have hM := hM.ext hx0
  refine X.next $ C.cond' rfl (fun hC0 => ?_) (fun hC0 => ?_)
  ·
   refine C.region $ Km rfl $ E.call rfl rfl (fail34_ret b a lim p vo 0 4 _ (hM.pick [0] (by decide)).sep) ?_
   rintro _ w1 m1
   rw [fst_z] at m1
   have hM := hM.calls [0] (by decide) rfl (by simp) m1
   try dsimp only [Za, Zb, Zc, Zd, repl] at hM
   try dsimp only [Za, Zb, Zc, Zd, repl] at hM
   refine E.nil $ X.join0  (Sub.nil _) rfl (hM.to (by rw [if_pos (by omega)]))
  refine C.skip $ X.join0  (Sub.nil _) rfl (hM.to (by rw [if_neg (by omega)]))
 rintro  w2 hM
 refine Kb $ Km rfl $ E.nilc rfl rfl $ E.fld (o := 4) (sz := 0) rfl U107 rfl rfl (by kernel_rfl) rfl $ E.load rfl U26 rfl (hM.bcell 0 rfl rfl) rfl $ Kp rfl $ Ka $ C.cond' rfl (fun hC1 => ?_) (fun hC1 => ?_)
 ·
  have hlt : ¬ lim ≤ out.length := fun q => by rw [if_pos q] at hC1; exact absurd hC1 (by decide)
  refine C.region $ Kf rfl $ E.nilc rfl rfl $ E.fld (o := 2) (sz := 0) rfl U107 rfl rfl (by kernel_rfl) rfl $ E.load rfl U22 rfl (hM.bcell 0 rfl rfl) rfl $ Km rfl $ E.pushM (enc := u8) 1 c hM rfl rfl rfl U22 elem_Tuint8 rfl (by omega) (by omega) (by simp) rfl rfl ?_
  intro v28 u28 w3 hM
  try dsimp only [Za, Zb, Zc, Zd, repl] at hM
  refine E.nilc rfl rfl $ E.fld (o := 2) (sz := 0) rfl U107 rfl rfl (by kernel_rfl) rfl $ E.storeM 0 hM rfl rfl rfl (by kernel_rfl) (hM.sl 1 rfl).one rfl ?_
  intro w4 hM
  try dsimp only [Za, Zb, Zc, Zd, repl] at hM
  refine E.nil $ end0 rfl ?_
  exact ⟨v28, hM.to (by simp only [if_neg hlt])⟩
 have hge : lim ≤ out.length := Decidable.byContradiction fun q => hC1 (if_neg q)
 refine C.skip $ end0 rfl ?_
 exact ⟨vo, hM.to (by simp only [if_pos hge])⟩
end Go.Proofs.YtajklleiifhipaaGreatDoor
