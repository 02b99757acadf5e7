/- the reference's filters. -/
import Derived.Test.YtajklleiifhipaaGreatDoorY0
import Derived.Test.YtajklleiifhipaaGreatDoorY3
import Derived.Test.YtajklleiifhipaaGreatDoorY5
import Derived.Test.YtajklleiifhipaaGreatDoorY20
set_option linter.unusedSimpArgs false
set_option linter.unusedVariables false
namespace Go.Proofs.YtajklleiifhipaaGreatDoor
open Go.RowKit Sym
open Pg
theorem wrapA {x p : Nat} : IntKind.u8.wrap ((x : Int) + (p : Int)) = ((UInt8.ofNat (x + p)).toNat : Int) := by rw [← Int.natCast_add, wrap8]
theorem nr_a {a b c : Nat} (h : max ((a : Int) + b - c - a) (a - (a + b - c)) ≤ max ((a : Int) + b - c - b) (b - (a + b - c)) ∧ max ((a : Int) + b - c - a) (a - (a + b - c)) ≤ max ((a : Int) + b - c - c) (c - (a + b - c))) : nr a b c = a := by
 unfold nr dst
 simp only
 split <;> split <;> omega
theorem nr_b {a b c : Nat} (h : ¬ (max ((a : Int) + b - c - a) (a - (a + b - c)) ≤ max ((a : Int) + b - c - b) (b - (a + b - c)) ∧ max ((a : Int) + b - c - a) (a - (a + b - c)) ≤ max ((a : Int) + b - c - c) (c - (a + b - c)))) (h2 : max ((a : Int) + b - c - b) (b - (a + b - c)) ≤ max ((a : Int) + b - c - c) (c - (a + b - c))) : nr a b c = b := by
 unfold nr dst
 simp only
 split <;> split <;> omega
theorem nr_c {a b c : Nat} (h : ¬ (max ((a : Int) + b - c - a) (a - (a + b - c)) ≤ max ((a : Int) + b - c - b) (b - (a + b - c)) ∧ max ((a : Int) + b - c - a) (a - (a + b - c)) ≤ max ((a : Int) + b - c - c) (c - (a + b - c)))) (h2 : ¬ max ((a : Int) + b - c - b) (b - (a + b - c)) ≤ max ((a : Int) + b - c - c) (c - (a + b - c))) : nr a b c = c := by
 unfold nr dst
 simp only
 split <;> split <;> omega
theorem rnearest_ret (a b c : Nat) (w : World) (ha : a ≤ 255) (hb : b ≤ 255) (hc : c ≤ 255) :
  Ret Tryz.prog 70 #[i64 a, i64 b, i64 c] w fun v w' => v = i64 (nr a b c : Int) ∧ Ext w w' := by
 have hM := M.start w
 refine enter Tryz.func70 rfl (by kernel_rfl) Tryz.ntmps70 rfl $ Kb $ Kd rfl $ Kf rfl $ E.add rfl rfl (by omega) rfl $ Km rfl $ E.sub' rfl rfl (by omega) rfl $ Kd rfl $ Kf rfl $ E.sub' rfl rfl (by omega) rfl $ Kf rfl $ E.sub' rfl rfl (by omega) rfl $ E.max2 rfl rfl rfl $ Kf rfl $ E.sub' rfl rfl (by omega) rfl $ Kf rfl $ E.sub' rfl rfl (by omega) rfl $ E.max2 rfl rfl rfl $ Kf rfl $ E.sub' rfl rfl (by omega) rfl ?_
 refine Kf rfl $ E.sub' rfl rfl (by omega) rfl $ E.max2 rfl rfl rfl $ Kn rfl $ Kn rfl $ Kc rfl $ C.seq $ C.chainE [(0, _), (1, _), (2, _), (9, _), (10, _)] rfl [(44, .bool (decide (max ((a : Int) + b - c - a) (a - (a + b - c)) ≤ max ((a : Int) + b - c - b) (b - (a + b - c)) ∧ max ((a : Int) + b - c - a) (a - (a + b - c)) ≤ max ((a : Int) + b - c - c) (c - (a + b - c)))))] ?_ ?_
 ·
  refine C.region $ Kf rfl $ Kp rfl $ Km rfl $ E.split 40 rfl (fun g40 => ?_) (fun g40 => ?_)
  ·
   try simp only [Ya, Yb, Yc, Yd, Ye, Yf] at g40
   refine Ko rfl $ Km rfl $ Ko rfl $ Km rfl $ Ko rfl $ Kp rfl $ Kr rfl $ E.nil $ X.join0 (Sub.cons (look_eq rfl (congrArg Value.bool (by exact decide_eq_decide.2 ⟨fun h => ⟨g40, h⟩, fun h => h.2⟩))) $ Sub.nil _) rfl rfl
  try simp only [Ya, Yb, Yc, Yd, Ye, Yf] at g40
  refine Kq rfl $ Kq rfl $ Kq rfl $ Kr rfl $ E.nil $ X.join0 (Sub.cons (look_eq rfl (congrArg Value.bool (by exact (decide_eq_false (p := max ((a : Int) + b - c - a) (a - (a + b - c)) ≤ max ((a : Int) + b - c - b) (b - (a + b - c)) ∧ max ((a : Int) + b - c - a) (a - (a + b - c)) ≤ max ((a : Int) + b - c - c) (c - (a + b - c))) (fun h => g40 h.1)).symm))) $ Sub.nil _) rfl rfl
 refine C.cond' rfl (fun hC0 => ?_) (fun hC0 => ?_)
 ·
  refine Kb $ Km rfl $ Kc rfl $ C.ret $ X.retT $ ret1 rfl rfl ?_
  exact ⟨by rw [nr_a hC0], hM.toExt⟩
 refine Kk $ C.seq $ Kb $ Kf rfl $ Kp rfl $ Ka $ C.cond' rfl (fun hC1 => ?_) (fun hC1 => ?_)
 ·
  refine Kb $ Km rfl $ Kc rfl $ C.ret $ X.retT $ ret1 rfl rfl ?_
  exact ⟨by rw [nr_b hC0 hC1], hM.toExt⟩
 refine Kk $ Kb $ Km rfl $ Kc rfl $ C.ret $ ret1 rfl rfl ?_
 exact ⟨by rw [nr_c hC0 hC1], hM.toExt⟩
theorem rpred_ret (m : Nat) (p q : Value) (pl prior : List UInt8) (i : Nat) (w : World) (hm : m ≤ 4) (hp : RdL u8 w p pl) (hq : RdL u8 w q prior) (hi : i ≤ pl.length) (hpr : prior = [] ∨ i < prior.length) (hil : i ≤ 1000000) :
  Ret Tryz.prog 48 #[i64 m, p, q, i64 i] w fun v w' => v = i64 (pr m pl prior i : Int) ∧ Ext w w' := by
 have hM := M.start w
 refine enter Tryz.func48 rfl (by kernel_rfl) Tryz.ntmps48 rfl $ Kb $ Kd rfl $ Kn rfl $ Kn rfl $ Kc rfl $ C.cut0 [(0, _), (2, _), (3, _), (10, _), (11, _)] rfl [(9, i64 (bf pl i : Int))] (fun w' => M w (Nn) w' []) ?_ ?_
 ·
  refine Kb $ Km rfl $ Kp rfl $ Ka $ C.cond' rfl (fun hC0 => ?_) (fun hC0 => ?_)
  ·
   refine C.region $ Kf rfl $ E.sub' rfl rfl (by omega) rfl $ E.get (k := i - 1) rfl rfl (hM.arg0 hp) (by omega) (by omega) U22 (by kernel_rfl) U5 rfl rfl rfl ?_
   rw [u8c, bf_pos (show 0 < i by omega) (by omega)]
   have hb1 := bf_le pl i
   refine E.conv rfl U5 U3 (IntWalk.i64_in _ (by omega)) rfl $ Kn rfl $ E.nil $ X.join0  (S1 rfl) rfl hM
  refine C.skip $ X.join0  (Sub.cons (look_val rfl (by rw [show i = 0 by omega]; rfl)) $ Sub.nil _) rfl hM
 rintro  w0 hM
 refine C.cut0 [(0, _), (9, _)] rfl [(10, i64 (at_ prior i : Int)), (11, i64 (bf prior i : Int))] (fun w' => M w (Nn) w' []) ?_ ?_
 ·
  refine Kb $ Km rfl $ E.lenv rfl (Rd.shape (hM.arg0 hq)) U22 rfl $ Kp rfl $ Ka $ C.cond' rfl (fun hC1 => ?_) (fun hC1 => ?_)
  ·
   have hpi : i < prior.length := hpr.resolve_left (fun h => by rw [h] at hC1; simp at hC1)
   refine Kb $ Kf rfl $ E.get (k := i) rfl rfl (hM.arg0 hq) rfl (by omega) U22 (by kernel_rfl) U5 rfl rfl rfl ?_
   rw [u8c, at_get hpi]
   have ha1 := at_le prior i
   refine E.conv rfl U5 U3 (IntWalk.i64_in _ (by omega)) rfl $ Kd rfl $ Km rfl $ Kp rfl $ Ka $ C.cond' rfl (fun hC2 => ?_) (fun hC2 => ?_)
   ·
    refine C.region $ Kf rfl $ E.sub' rfl rfl (by omega) rfl $ E.get (k := i - 1) rfl rfl (hM.arg0 hq) (by omega) (by omega) U22 (by kernel_rfl) U5 rfl rfl rfl ?_
    rw [u8c, bf_pos (show 0 < i by omega) (by omega)]
    have hb2 := bf_le prior i
    refine E.conv rfl U5 U3 (IntWalk.i64_in _ (by omega)) rfl $ Kn rfl $ E.nil $ X.join0  (Sub.cons rfl $ S1 rfl) rfl hM
   refine C.skip $ X.join0  (Sub.cons rfl $ Sub.cons (look_val rfl (by rw [show i = 0 by omega]; rfl)) $ Sub.nil _) rfl hM
  obtain rfl : prior = [] := List.length_eq_zero_iff.1 (by omega)
  refine C.skip $ X.join0  (Sub.cons (look_val rfl (by rw [at_nil]; rfl)) $ Sub.cons (look_val rfl (by rw [bf_nil]; rfl)) $ Sub.nil _) rfl hM
 rintro  w1 hM
 refine C.seq $ Kb $ Km rfl $ Ka $ C.block $ Kb $ Kp rfl $ Kc rfl $ C.cond' rfl (fun hC3 => ?_) (fun hC3 => ?_)
 ·
  obtain rfl : m = 1 := by omega
  refine Kb $ Km rfl $ Kc rfl $ C.ret $ X.retB $ X.retT $ ret1 rfl rfl ?_
  exact ⟨rfl, hM.toExt⟩
 refine Kb $ Kp rfl $ Kc rfl $ C.cond' rfl (fun hC4 => ?_) (fun hC4 => ?_)
 ·
  obtain rfl : m = 2 := by omega
  refine Kb $ Km rfl $ Kc rfl $ C.ret $ X.retB $ X.retT $ ret1 rfl rfl ?_
  exact ⟨rfl, hM.toExt⟩
 refine Kb $ Kp rfl $ Kc rfl $ C.cond' rfl (fun hC5 => ?_) (fun hC5 => ?_)
 ·
  obtain rfl : m = 3 := by omega
  have hb1 := bf_le pl i
  have ha1 := at_le prior i
  refine Kb $ Kf rfl $ E.add rfl rfl (by omega) rfl $ E.quo rfl rfl (by omega) (IntWalk.i64_quo _ _ (by omega)) rfl $ Kc rfl $ C.ret $ X.retB $ X.retT $ ret1 rfl rfl ?_
  exact ⟨by rw [show pr 3 pl prior i = (bf pl i + at_ prior i) / 2 from rfl]; exact congrArg _ (by omega), hM.toExt⟩
 refine Kb $ Kp rfl $ Kc rfl $ C.cond' rfl (fun hC6 => ?_) (fun hC6 => ?_)
 ·
  obtain rfl : m = 4 := by omega
  refine Kb $ Kf rfl $ Km rfl $ E.call rfl rfl (rnearest_ret _ _ _ _ (bf_le _ _) (at_le _ _) (bf_le _ _)) ?_
  rintro _ w2 ⟨rfl, x2⟩
  have hM := hM.ext x2
  refine Kc rfl $ C.ret $ X.retB $ X.retT $ ret1 rfl rfl ?_
  exact ⟨rfl, hM.toExt⟩
 obtain rfl : m = 0 := by omega
 refine C.skip $ X.outN $ X.next $ Kb $ Kc rfl $ C.ret $ ret1 rfl rfl ?_
 exact ⟨rfl, hM.toExt⟩
theorem g35check_ret (m : Int) (p q : Value) (row prior : List UInt8) (w : World) (hp : RdL u8 w p row) (hq : RdL u8 w q prior) :
  Ret Tryz.prog 47 #[i64 m, p, q] w fun v w' => v = i64 (apE m row prior) ∧ Ext w w' := by
 have hM := M.start w
 refine enter Tryz.func47 rfl (by kernel_rfl) Tryz.ntmps47 rfl $ Kb $ Kc rfl $ C.seq $ C.chainE [(1, _), (2, _)] rfl [(12, .bool (decide (m < 0 ∨ 4 < m)))] ?_ ?_
 ·
  refine C.region $ Km rfl $ Kp rfl $ Km rfl $ E.split 9 rfl (fun g9 => ?_) (fun g9 => ?_)
  ·
   try simp only [Ya, Yb, Yc, Yd, Ye, Yf] at g9
   refine Kq rfl $ Kq rfl $ Kr rfl $ E.nil $ X.join0 (Sub.cons (look_eq rfl (congrArg Value.bool (by exact (decide_eq_true (p := m < 0 ∨ 4 < m) (by omega)).symm))) $ Sub.nil _) rfl rfl
  try simp only [Ya, Yb, Yc, Yd, Ye, Yf] at g9
  refine Ko rfl $ Km rfl $ Ko rfl $ Kp rfl $ Kr rfl $ E.nil $ X.join0 (Sub.cons (look_eq rfl (congrArg Value.bool (by exact decide_eq_decide.2 ⟨fun h => by omega, fun h => by omega⟩))) $ Sub.nil _) rfl rfl
 refine C.cond' rfl (fun hC0 => ?_) (fun hC0 => ?_)
 ·
  refine Kb $ Kc rfl $ C.ret $ X.retT $ ret1 rfl rfl ?_
  exact ⟨by rw [apE, if_pos (by omega)], hM.toExt⟩
 have hm5 : 0 ≤ m ∧ m < 5 := by omega
 refine Kk $ C.seq $ C.chainE [] rfl [(22, .bool (decide (prior ≠ [] ∧ prior.length ≠ row.length)))] ?_ ?_
 ·
  refine C.region $ Km rfl $ E.lenv rfl (Rd.shape (hM.arg0 hq)) U22 rfl $ Kp rfl $ Km rfl $ E.split 16 rfl (fun g16 => ?_) (fun g16 => ?_)
  ·
   try simp only [Ya, Yb, Yc, Yd, Ye, Yf] at g16
   have hpn : prior ≠ [] := fun h => by rw [h] at g16; simp at g16
   refine Ko rfl $ Km rfl $ Ko rfl $ E.lenv rfl (Rd.shape (hM.arg0 hq)) U22 rfl $ Ko rfl $ Km rfl $ Ko rfl $ E.lenv rfl (Rd.shape (hM.arg0 hp)) U22 rfl $ Ko rfl $ Kp rfl $ Kr rfl $ E.nil $ X.join0 (Sub.cons (look_eq rfl (congrArg Value.bool (by exact decide_eq_decide.2 ⟨fun h => ⟨hpn, by omega⟩, fun h => by have := h.2; omega⟩))) $ Sub.nil _) rfl rfl
  try simp only [Ya, Yb, Yc, Yd, Ye, Yf] at g16
  have hpn : prior = [] := List.length_eq_zero_iff.1 (by omega)
  refine Kq rfl $ Kq rfl $ Kq rfl $ Kq rfl $ Kq rfl $ Kr rfl $ E.nil $ X.join0 (Sub.cons (look_eq rfl (congrArg Value.bool (by exact (decide_eq_false (by simp [hpn])).symm))) $ Sub.nil _) rfl rfl
 refine C.cond' rfl (fun hC1 => ?_) (fun hC1 => ?_)
 ·
  refine Kb $ Kc rfl $ C.ret $ X.retT $ ret1 rfl rfl ?_
  exact ⟨by rw [apE, if_neg (Decidable.not_not.2 hm5), if_pos hC1], hM.toExt⟩
 refine Kk $ Kb $ Kc rfl $ C.ret $ ret1 rfl rfl ?_
 exact ⟨by rw [apE, if_neg (Decidable.not_not.2 hm5), if_neg hC1], hM.toExt⟩
set_option maxHeartbeats 1000000 in
theorem rUnfilter_ret (m : Int) (p q : Value) (row prior : List UInt8) (w : World) (hp : RdL u8 w p row) (hq : RdL u8 w q prior) (hl : row.length ≤ 1000000) :
  Ret Tryz.prog 35 #[i64 m, p, q] w fun v w' => ∃ vo, v = .tuple #[vo, i64 (apE m row prior)] ∧ M w Nn w' [Rg.sl u8 5 vo (apO unf m row prior)] := by
 have hM := M.start w
 refine enter Tryz.func35 rfl (by kernel_rfl) Tryz.ntmps35 rfl $ Kb $ Kn rfl $ Kc rfl $ C.seq $ Kb $ Kf rfl $ Km rfl $ E.call rfl rfl (g35check_ret m p q row prior _ (hM.arg0 hp) (hM.arg0 hq)) ?_
 rintro _ w0 ⟨rfl, x0⟩
 have hM := hM.ext x0
 try dsimp only [Za, Zb, Zc, Zd, repl] at hM
 refine Kd rfl $ Km rfl $ Kp rfl $ Ka $ C.cond' rfl (fun hC0 => ?_) (fun hC0 => ?_)
 ·
  refine Kb $ Km rfl $ Kn rfl $ Kc rfl $ C.ret $ X.retT $ ret2 rfl rfl rfl ?_
  exact ⟨nilS, rfl, by rw [apO, if_neg hC0]; exact (hM.pick [] (by decide)).nil u8 5⟩
 have hE : apE m row prior = 0 := Decidable.byContradiction hC0
 have hm5 : 0 ≤ m ∧ m < 5 := Decidable.byContradiction fun h => by rw [apE, if_pos h] at hE; cases hE
 have hpr : prior = [] ∨ prior.length = row.length := by
  by_cases h : prior = []
  · exact .inl h
  exact .inr (Decidable.byContradiction fun h2 => by rw [apE, if_neg (Decidable.not_not.2 hm5), if_pos ⟨h, h2⟩] at hE; cases hE)
 rw [apO, if_pos hE, hE]
 obtain ⟨m, rfl⟩ : ∃ n : Nat, m = (n : Int) := ⟨m.toNat, by omega⟩
 rw [Int.toNat_natCast]
 refine Kk $ Kb $ Kc rfl $ C.seq $ Kb $ Kc rfl $ C.block $ ?_
 have hM := hM.nil u8 5
 try dsimp only [List.nil_append, List.cons_append] at hM
 refine C.loop2 [(0, _), (1, _), (2, _)] rfl (fun (k : Nat) (vo : Value) => [(9, vo), (10, i64 k)]) (fun (k : Nat) (vo : Value) w' => M w (Nn) w' [Rg.sl u8 5 vo (unl m row prior k)] ∧ k ≤ row.length) (fun (k : Nat) (vo : Value) => row.length - k) 0 nilS ?_ ?_ ?_
 · exact Sub.cons rfl $ S1 rfl
 · exact ⟨hM, Nat.zero_le _⟩
 rintro k vo w1 ⟨hM, hk⟩
 refine C.seq $ Kb $ Kf rfl $ E.lenv rfl (Rd.shape (hM.arg0 hp)) U22 rfl $ Kp rfl $ Ka $ C.cond' rfl (fun hC1 => ?_) (fun hC1 => ?_)
 ·
  have hk' : k < row.length := by omega
  have hal := at_le row k
  have hpl := pr_le m (unl m row prior k) prior k
  have hul := unl_len m row prior k
  refine Kk $ C.seq $ C.block $ C.heldM hM [] (by decide) (by kernel_rfl) fun wh2 hM hS => Kt 0 rfl (by kernel_rfl) hS (fun w' hM => Y.mv rfl) rfl $ Kt 1 rfl (by kernel_rfl) hS (fun w' hM => Y.mv rfl) rfl $ Kt 2 rfl (by kernel_rfl) hS (fun w' hM => Y.mv rfl) rfl $ Ku 3 rfl (by kernel_rfl) hS (Y.idx1 (k := k) rfl rfl (hM.arg0 hp) rfl hk' U22 (by kernel_rfl)) (fun w' hM => Y.idx1 (k := k) rfl rfl (hM.arg0 hp) rfl hk' U22 (by kernel_rfl)) rfl $ Kt 6 rfl (by kernel_rfl) hS (fun w' hM => Y.mv rfl) rfl $ Kt 7 rfl (by kernel_rfl) hS (fun w' hM => Y.mv rfl) rfl $ Kt 8 rfl (by kernel_rfl) hS (fun w' hM => Y.mv rfl) rfl $ Kt 9 rfl (by kernel_rfl) hS (fun w' hM => Y.mv rfl) rfl $ Ku 4 rfl (by kernel_rfl) hS (Y.load rfl U5 rfl (RdL.cellA (l := row) (j := k) (hM.arg0 hp) rfl hk')) (fun w' hM => Y.load rfl U5 rfl (RdL.cellA (l := row) (j := k) (hM.arg0 hp) rfl hk')) rfl ?_
  rw [u8c, at_get hk']
  refine Ku 5 rfl (by kernel_rfl) hS (Y.conv rfl U5 U3 (IntWalk.i64_in _ (by omega))) (fun w' hM => Y.conv rfl U5 U3 (IntWalk.i64_in _ (by omega))) rfl $ H.only 10 rfl (by kernel_rfl) $ E.call rfl rfl (rpred_ret m vo q (unl m row prior k) prior k _ (by omega) (hM.sl 0 rfl) (hM.arg0 hq) (by omega) (hpr.imp id (fun h => by omega)) (by omega)) ?_
  rintro _ w3 ⟨rfl, x3⟩
  have hM := hM.ext x3
  try dsimp only [Za, Zb, Zc, Zd, repl] at hM
  have hS := hM.pick [] (by decide)
  refine H.back hS $ Kt 11 rfl (by kernel_rfl) hS (fun w' hM => Y.add rfl rfl (by omega)) rfl $ Ku 12 rfl (by kernel_rfl) hS (Y.conv rfl U3 U5 (c := ((unk m row prior k).toNat : Int)) wrapA) (fun w' hM => Y.conv rfl U3 U5 (c := ((unk m row prior k).toNat : Int)) wrapA) rfl $ H.only 13 rfl (by kernel_rfl) $ E.mk1M (enc := u8) (unk m row prior k) hM rfl U22 elem_Tuint8 rfl rfl ?_
  intro v37 w4 hM
  try dsimp only [Za, Zb, Zc, Zd, repl] at hM
  have hS := hM.pick [] (by decide)
  refine H.back hS $ H.only 14 rfl (by kernel_rfl) $ E.appendM 0 hM rfl rfl rfl U22 elem_Tuint8 (hM.sl 1 rfl) (fun _ => rfl) (by rw [hul, List.length_singleton]; omega) (by rw [hul, List.length_singleton]; omega) rfl ?_
  intro v38 w5 hM
  try dsimp only [Za, Zb, Zc, Zd, repl] at hM
  have hS := hM.pick [] (by decide)
  refine H.back hS $ Kt 15 rfl (by kernel_rfl) hS (fun w' hM => Y.asg rfl) rfl $ H.done (by kernel_rfl) $ X.outN $ X.next $ C.region $ Km rfl $ E.add rfl rfl (by omega) rfl $ Kn rfl $ E.nil $ ?_
  rw [show unl m row prior k ++ [unk m row prior k] = unl m row prior (k + 1) from rfl] at hM
  refine X.again2 (k + 1) _ (Sub.cons rfl $ S1 rfl) rfl ⟨hM.pick [0] (by decide), by omega⟩ (by omega)
 obtain rfl : k = row.length := by omega
 refine Kx $ Kb $ Km rfl $ Kn rfl $ Kc rfl $ C.ret $ ret2 rfl rfl rfl ?_
 exact ⟨vo, rfl, hM⟩
end Go.Proofs.YtajklleiifhipaaGreatDoor
