/- Texts of the claim, laid together: Pg15, CrcB, Pg18, SymZ, Pg20. -/
import Derived.Test.YtajklleiifhipaaGreatDoorV0
import Derived.Test.YtajklleiifhipaaGreatDoorV3
import Derived.Test.YtajklleiifhipaaGreatDoorV4
import Derived.Test.YtajklleiifhipaaGreatDoorV5
import Derived.Test.YtajklleiifhipaaGreatDoorV12
import Derived.Test.YtajklleiifhipaaGreatDoorV13
import Derived.Test.YtajklleiifhipaaGreatDoorV20
set_option linter.unusedSimpArgs false
set_option linter.unusedVariables false
namespace Go.Proofs.YtajklleiifhipaaGreatDoor
open Go.RowKit Sym
open Pg
theorem wrapS {x p : Nat} (hp : p ≤ 255) : IntKind.u8.wrap ((x : Int) - (p : Int)) = ((UInt8.ofNat (x + 256 - p)).toNat : Int) := by
 have := wrapF (x := x) hp
 rw [show (x : Int) + -1 * (p : Int) = (x : Int) - p by omega] at this; exact this
theorem nr_a {a b c : Nat} (h : max ((a : Int) + b - c - a) (a - (a + b - c)) ≤ max ((a : Int) + b - c - b) (b - (a + b - c)) ∧ max ((a : Int) + b - c - a) (a - (a + b - c)) ≤ max ((a : Int) + b - c - c) (c - (a + b - c))) : nr a b c = a := by
 unfold nr dst
 simp only
 split <;> split <;> omega
theorem nr_b {a b c : Nat} (h : ¬ (max ((a : Int) + b - c - a) (a - (a + b - c)) ≤ max ((a : Int) + b - c - b) (b - (a + b - c)) ∧ max ((a : Int) + b - c - a) (a - (a + b - c)) ≤ max ((a : Int) + b - c - c) (c - (a + b - c)))) (h2 : max ((a : Int) + b - c - b) (b - (a + b - c)) ≤ max ((a : Int) + b - c - c) (c - (a + b - c))) : nr a b c = b := by
 unfold nr dst
 simp only
 split <;> split <;> omega
theorem nr_c {a b c : Nat} (h : ¬ (max ((a : Int) + b - c - a) (a - (a + b - c)) ≤ max ((a : Int) + b - c - b) (b - (a + b - c)) ∧ max ((a : Int) + b - c - a) (a - (a + b - c)) ≤ max ((a : Int) + b - c - c) (c - (a + b - c)))) (h2 : ¬ max ((a : Int) + b - c - b) (b - (a + b - c)) ≤ max ((a : Int) + b - c - c) (c - (a + b - c))) : nr a b c = c := by
 unfold nr dst
 simp only
 split <;> split <;> omega
theorem rnearest_ret (a b c : Nat) (w : World) (ha : a ≤ 255) (hb : b ≤ 255) (hc : c ≤ 255) :
  Ret Tryz.prog 70 #[i64 a, i64 b, i64 c] w fun v w' => v = i64 (nr a b c : Int) ∧ Ext w w' := by
 have hM := M.start w
 refine enter Tryz.func70 rfl (by kernel_rfl) Tryz.ntmps70 rfl $ Kb $ Kd rfl $ Kf rfl $ E.add rfl rfl (by omega) rfl $ Km rfl $ E.sub' rfl rfl (by omega) rfl $ Kd rfl $ Kf rfl $ E.sub' rfl rfl (by omega) rfl $ Kf rfl $ E.sub' rfl rfl (by omega) rfl $ E.max2 rfl rfl rfl $ Kf rfl $ E.sub' rfl rfl (by omega) rfl $ Kf rfl $ E.sub' rfl rfl (by omega) rfl $ E.max2 rfl rfl rfl $ Kf rfl $ E.sub' rfl rfl (by omega) rfl ?_
 refine Kf rfl $ E.sub' rfl rfl (by omega) rfl $ E.max2 rfl rfl rfl $ Kn rfl $ Kn rfl $ Kc rfl $ C.seq $ C.chainE [(0, _), (1, _), (2, _), (9, _), (10, _)] rfl [(44, .bool (decide (max ((a : Int) + b - c - a) (a - (a + b - c)) ≤ max ((a : Int) + b - c - b) (b - (a + b - c)) ∧ max ((a : Int) + b - c - a) (a - (a + b - c)) ≤ max ((a : Int) + b - c - c) (c - (a + b - c)))))] ?_ ?_
 ·
  refine C.region $ Kf rfl $ Kp rfl $ Km rfl $ E.split 40 rfl (fun g40 => ?_) (fun g40 => ?_)
  ·
   try simp only [Ya, Yb, Yc, Yd, Ye, Yf] at g40
   refine Ko rfl $ Km rfl $ Ko rfl $ Km rfl $ Ko rfl $ Kp rfl $ Kr rfl $ E.nil $ X.join0 (Sub.cons (look_eq rfl (congrArg Value.bool (by exact decide_eq_decide.2 ⟨fun h => ⟨g40, h⟩, fun h => h.2⟩))) $ Sub.nil _) rfl rfl
  try simp only [Ya, Yb, Yc, Yd, Ye, Yf] at g40
  refine Kq rfl $ Kq rfl $ Kq rfl $ Kr rfl $ E.nil $ X.join0 (Sub.cons (look_eq rfl (congrArg Value.bool (by exact (decide_eq_false (p := max ((a : Int) + b - c - a) (a - (a + b - c)) ≤ max ((a : Int) + b - c - b) (b - (a + b - c)) ∧ max ((a : Int) + b - c - a) (a - (a + b - c)) ≤ max ((a : Int) + b - c - c) (c - (a + b - c))) (fun h => g40 h.1)).symm))) $ Sub.nil _) rfl rfl
 refine C.cond' rfl (fun hC0 => ?_) (fun hC0 => ?_)
 ·
  refine Kb $ Km rfl $ Kc rfl $ C.ret $ X.retT $ ret1 rfl rfl ?_
  exact ⟨by rw [nr_a hC0], hM.toExt⟩
 refine Kk $ C.seq $ Kb $ Kf rfl $ Kp rfl $ Ka $ C.cond' rfl (fun hC1 => ?_) (fun hC1 => ?_)
 ·
  refine Kb $ Km rfl $ Kc rfl $ C.ret $ X.retT $ ret1 rfl rfl ?_
  exact ⟨by rw [nr_b hC0 hC1], hM.toExt⟩
 refine Kk $ Kb $ Km rfl $ Kc rfl $ C.ret $ ret1 rfl rfl ?_
 exact ⟨by rw [nr_c hC0 hC1], hM.toExt⟩
theorem rpred_ret (m : Nat) (p q : Value) (pl prior : List UInt8) (i : Nat) (w : World) (hm : m ≤ 4) (hp : RdL u8 w p pl) (hq : RdL u8 w q prior) (hi : i ≤ pl.length) (hpr : prior = [] ∨ i < prior.length) (hil : i ≤ 1000000) :
  Ret Tryz.prog 48 #[i64 m, p, q, i64 i] w fun v w' => v = i64 (pr m pl prior i : Int) ∧ Ext w w' := by
 have hM := M.start w
 refine enter Tryz.func48 rfl (by kernel_rfl) Tryz.ntmps48 rfl $ Kb $ Kd rfl $ Kn rfl $ Kn rfl $ Kc rfl $ C.cut0 [(0, _), (2, _), (3, _), (10, _), (11, _)] rfl [(9, i64 (bf pl i : Int))] (fun w' => M w (Nn) w' []) ?_ ?_
 ·
  refine Kb $ Km rfl $ Kp rfl $ Ka $ C.cond' rfl (fun hC0 => ?_) (fun hC0 => ?_)
  ·
   refine C.region $ Kf rfl $ E.sub' rfl rfl (by omega) rfl $ E.get (k := i - 1) rfl rfl (hM.arg0 hp) (by omega) (by omega) U22 (by kernel_rfl) U5 rfl rfl rfl ?_
   rw [u8c, bf_pos (show 0 < i by omega) (by omega)]
   have hb1 := bf_le pl i
   refine E.conv rfl U5 U3 (IntWalk.i64_in _ (by omega)) rfl $ Kn rfl $ E.nil $ X.join0  (S1 rfl) rfl hM
  refine C.skip $ X.join0  (Sub.cons (look_val rfl (by rw [show i = 0 by omega]; rfl)) $ Sub.nil _) rfl hM
 rintro  w0 hM
 refine C.cut0 [(0, _), (9, _)] rfl [(10, i64 (at_ prior i : Int)), (11, i64 (bf prior i : Int))] (fun w' => M w (Nn) w' []) ?_ ?_
 ·
  refine Kb $ Km rfl $ E.lenv rfl (Rd.shape (hM.arg0 hq)) U22 rfl $ Kp rfl $ Ka $ C.cond' rfl (fun hC1 => ?_) (fun hC1 => ?_)
  ·
   have hpi : i < prior.length := hpr.resolve_left (fun h => by rw [h] at hC1; simp at hC1)
   refine Kb $ Kf rfl $ E.get (k := i) rfl rfl (hM.arg0 hq) rfl (by omega) U22 (by kernel_rfl) U5 rfl rfl rfl ?_
   rw [u8c, at_get hpi]
   have ha1 := at_le prior i
   refine E.conv rfl U5 U3 (IntWalk.i64_in _ (by omega)) rfl $ Kd rfl $ Km rfl $ Kp rfl $ Ka $ C.cond' rfl (fun hC2 => ?_) (fun hC2 => ?_)
   ·
    refine C.region $ Kf rfl $ E.sub' rfl rfl (by omega) rfl $ E.get (k := i - 1) rfl rfl (hM.arg0 hq) (by omega) (by omega) U22 (by kernel_rfl) U5 rfl rfl rfl ?_
    rw [u8c, bf_pos (show 0 < i by omega) (by omega)]
    have hb2 := bf_le prior i
    refine E.conv rfl U5 U3 (IntWalk.i64_in _ (by omega)) rfl $ Kn rfl $ E.nil $ X.join0  (Sub.cons rfl $ S1 rfl) rfl hM
   refine C.skip $ X.join0  (Sub.cons rfl $ Sub.cons (look_val rfl (by rw [show i = 0 by omega]; rfl)) $ Sub.nil _) rfl hM
  obtain rfl : prior = [] := List.length_eq_zero_iff.1 (by omega)
  refine C.skip $ X.join0  (Sub.cons (look_val rfl (by rw [at_nil]; rfl)) $ Sub.cons (look_val rfl (by rw [bf_nil]; rfl)) $ Sub.nil _) rfl hM
 rintro  w1 hM
 refine C.seq $ Kb $ Km rfl $ Ka $ C.block $ Kb $ Kp rfl $ Kc rfl $ C.cond' rfl (fun hC3 => ?_) (fun hC3 => ?_)
 ·
  obtain rfl : m = 1 := by omega
  refine Kb $ Km rfl $ Kc rfl $ C.ret $ X.retB $ X.retT $ ret1 rfl rfl ?_
  exact ⟨rfl, hM.toExt⟩
 refine Kb $ Kp rfl $ Kc rfl $ C.cond' rfl (fun hC4 => ?_) (fun hC4 => ?_)
 ·
  obtain rfl : m = 2 := by omega
  refine Kb $ Km rfl $ Kc rfl $ C.ret $ X.retB $ X.retT $ ret1 rfl rfl ?_
  exact ⟨rfl, hM.toExt⟩
 refine Kb $ Kp rfl $ Kc rfl $ C.cond' rfl (fun hC5 => ?_) (fun hC5 => ?_)
 ·
  obtain rfl : m = 3 := by omega
  have hb1 := bf_le pl i
  have ha1 := at_le prior i
  refine Kb $ Kf rfl $ E.add rfl rfl (by omega) rfl $ E.quo rfl rfl (by omega) (IntWalk.i64_quo _ _ (by omega)) rfl $ Kc rfl $ C.ret $ X.retB $ X.retT $ ret1 rfl rfl ?_
  exact ⟨by rw [show pr 3 pl prior i = (bf pl i + at_ prior i) / 2 from rfl]; exact congrArg _ (by omega), hM.toExt⟩
 refine Kb $ Kp rfl $ Kc rfl $ C.cond' rfl (fun hC6 => ?_) (fun hC6 => ?_)
 ·
  obtain rfl : m = 4 := by omega
  refine Kb $ Kf rfl $ Km rfl $ E.call rfl rfl (rnearest_ret _ _ _ _ (bf_le _ _) (at_le _ _) (bf_le _ _)) ?_
  rintro _ w2 ⟨rfl, x2⟩
  have hM := hM.ext x2
  refine Kc rfl $ C.ret $ X.retB $ X.retT $ ret1 rfl rfl ?_
  exact ⟨rfl, hM.toExt⟩
 obtain rfl : m = 0 := by omega
 refine C.skip $ X.outN $ X.next $ Kb $ Kc rfl $ C.ret $ ret1 rfl rfl ?_
 exact ⟨rfl, hM.toExt⟩
theorem g35check_ret (m : Int) (p q : Value) (row prior : List UInt8) (w : World) (hp : RdL u8 w p row) (hq : RdL u8 w q prior) :
  Ret Tryz.prog 47 #[i64 m, p, q] w fun v w' => v = i64 (apE m row prior) ∧ Ext w w' := by
 have hM := M.start w
 refine enter Tryz.func47 rfl (by kernel_rfl) Tryz.ntmps47 rfl $ Kb $ Kc rfl $ C.seq $ C.chainE [(1, _), (2, _)] rfl [(12, .bool (decide (m < 0 ∨ 4 < m)))] ?_ ?_
 ·
  refine C.region $ Km rfl $ Kp rfl $ Km rfl $ E.split 9 rfl (fun g9 => ?_) (fun g9 => ?_)
  ·
   try simp only [Ya, Yb, Yc, Yd, Ye, Yf] at g9
   refine Kq rfl $ Kq rfl $ Kr rfl $ E.nil $ X.join0 (Sub.cons (look_eq rfl (congrArg Value.bool (by exact (decide_eq_true (p := m < 0 ∨ 4 < m) (by omega)).symm))) $ Sub.nil _) rfl rfl
  try simp only [Ya, Yb, Yc, Yd, Ye, Yf] at g9
  refine Ko rfl $ Km rfl $ Ko rfl $ Kp rfl $ Kr rfl $ E.nil $ X.join0 (Sub.cons (look_eq rfl (congrArg Value.bool (by exact decide_eq_decide.2 ⟨fun h => by omega, fun h => by omega⟩))) $ Sub.nil _) rfl rfl
 refine C.cond' rfl (fun hC0 => ?_) (fun hC0 => ?_)
 ·
  refine Kb $ Kc rfl $ C.ret $ X.retT $ ret1 rfl rfl ?_
  exact ⟨by rw [apE, if_pos (by omega)], hM.toExt⟩
 have hm5 : 0 ≤ m ∧ m < 5 := by omega
 refine Kk $ C.seq $ C.chainE [] rfl [(22, .bool (decide (prior ≠ [] ∧ prior.length ≠ row.length)))] ?_ ?_
 ·
  refine C.region $ Km rfl $ E.lenv rfl (Rd.shape (hM.arg0 hq)) U22 rfl $ Kp rfl $ Km rfl $ E.split 16 rfl (fun g16 => ?_) (fun g16 => ?_)
  ·
   try simp only [Ya, Yb, Yc, Yd, Ye, Yf] at g16
   have hpn : prior ≠ [] := fun h => by rw [h] at g16; simp at g16
   refine Ko rfl $ Km rfl $ Ko rfl $ E.lenv rfl (Rd.shape (hM.arg0 hq)) U22 rfl $ Ko rfl $ Km rfl $ Ko rfl $ E.lenv rfl (Rd.shape (hM.arg0 hp)) U22 rfl $ Ko rfl $ Kp rfl $ Kr rfl $ E.nil $ X.join0 (Sub.cons (look_eq rfl (congrArg Value.bool (by exact decide_eq_decide.2 ⟨fun h => ⟨hpn, by omega⟩, fun h => by have := h.2; omega⟩))) $ Sub.nil _) rfl rfl
  try simp only [Ya, Yb, Yc, Yd, Ye, Yf] at g16
  have hpn : prior = [] := List.length_eq_zero_iff.1 (by omega)
  refine Kq rfl $ Kq rfl $ Kq rfl $ Kq rfl $ Kq rfl $ Kr rfl $ E.nil $ X.join0 (Sub.cons (look_eq rfl (congrArg Value.bool (by exact (decide_eq_false (by simp [hpn])).symm))) $ Sub.nil _) rfl rfl
 refine C.cond' rfl (fun hC1 => ?_) (fun hC1 => ?_)
 ·
  refine Kb $ Kc rfl $ C.ret $ X.retT $ ret1 rfl rfl ?_
  exact ⟨by rw [apE, if_neg (Decidable.not_not.2 hm5), if_pos hC1], hM.toExt⟩
 refine Kk $ Kb $ Kc rfl $ C.ret $ ret1 rfl rfl ?_
 exact ⟨by rw [apE, if_neg (Decidable.not_not.2 hm5), if_neg hC1], hM.toExt⟩
set_option maxHeartbeats 1000000 in
theorem rFilter_ret (m : Int) (p q : Value) (row prior : List UInt8) (w : World) (hp : RdL u8 w p row) (hq : RdL u8 w q prior) (hl : row.length ≤ 1000000) :
  Ret Tryz.prog 22 #[i64 m, p, q] w fun v w' => ∃ vo, v = .tuple #[vo, i64 (apE m row prior)] ∧ M w Nn w' [Rg.sl u8 5 vo (apO fil m row prior)] := by
 have hM := M.start w
 refine enter Tryz.func22 rfl (by kernel_rfl) Tryz.ntmps22 rfl $ Kb $ Kn rfl $ Kc rfl $ C.seq $ Kb $ Kf rfl $ Km rfl $ E.call rfl rfl (g35check_ret m p q row prior _ (hM.arg0 hp) (hM.arg0 hq)) ?_
 rintro _ w0 ⟨rfl, x0⟩
 have hM := hM.ext x0
 refine Kd rfl $ Km rfl $ Kp rfl $ Ka $ C.cond' rfl (fun hC0 => ?_) (fun hC0 => ?_)
 ·
  refine Kb $ Km rfl $ Kn rfl $ Kc rfl $ C.ret $ X.retT $ ret2 rfl rfl rfl ?_
  exact ⟨nilS, rfl, by rw [apO, if_neg hC0]; exact (hM.pick [] (by decide)).nil u8 5⟩
 have hE : apE m row prior = 0 := Decidable.byContradiction hC0
 have hm5 : 0 ≤ m ∧ m < 5 := Decidable.byContradiction fun h => by rw [apE, if_pos h] at hE; cases hE
 have hpr : prior = [] ∨ prior.length = row.length := by
  by_cases h : prior = []
  · exact .inl h
  exact .inr (Decidable.byContradiction fun h2 => by rw [apE, if_neg (Decidable.not_not.2 hm5), if_pos ⟨h, h2⟩] at hE; cases hE)
 rw [apO, if_pos hE, hE]
 obtain ⟨m, rfl⟩ : ∃ n : Nat, m = (n : Int) := ⟨m.toNat, by omega⟩
 rw [Int.toNat_natCast]
 refine Kk $ Kb $ Kc rfl $ C.seq $ Kb $ Kc rfl $ C.block $ ?_
 have hM := hM.nil u8 5
 try dsimp only [List.nil_append, List.cons_append] at hM
 refine C.loop2 [(0, _), (1, _), (2, _)] rfl (fun (k : Nat) (vo : Value) => [(9, vo), (10, i64 k)]) (fun (k : Nat) (vo : Value) w' => M w (Nn) w' [Rg.sl u8 5 vo (tab k (filk m row prior))] ∧ k ≤ row.length) (fun (k : Nat) (vo : Value) => row.length - k) 0 nilS ?_ ?_ ?_
 · exact Sub.cons rfl $ S1 rfl
 · exact ⟨hM, Nat.zero_le _⟩
 rintro k vo w1 ⟨hM, hk⟩
 refine C.seq $ Kb $ Kf rfl $ E.lenv rfl (Rd.shape (hM.arg0 hp)) U22 rfl $ Kp rfl $ Ka $ C.cond' rfl (fun hC1 => ?_) (fun hC1 => ?_)
 ·
  have hk' : k < row.length := by omega
  have hal := at_le row k
  have hpl := pr_le m row prior k
  have hul := tab_len k (filk m row prior)
  refine Kk $ C.seq $ C.block $ C.heldM hM [] (by decide) (by kernel_rfl) fun wh2 hM hS => Kt 0 rfl (by kernel_rfl) hS (fun w' hM => Y.mv rfl) rfl $ Kt 1 rfl (by kernel_rfl) hS (fun w' hM => Y.mv rfl) rfl $ Kt 2 rfl (by kernel_rfl) hS (fun w' hM => Y.mv rfl) rfl $ Ku 3 rfl (by kernel_rfl) hS (Y.idx1 (k := k) rfl rfl (hM.arg0 hp) rfl hk' U22 (by kernel_rfl)) (fun w' hM => Y.idx1 (k := k) rfl rfl (hM.arg0 hp) rfl hk' U22 (by kernel_rfl)) rfl $ Kt 6 rfl (by kernel_rfl) hS (fun w' hM => Y.mv rfl) rfl $ Kt 7 rfl (by kernel_rfl) hS (fun w' hM => Y.mv rfl) rfl $ Kt 8 rfl (by kernel_rfl) hS (fun w' hM => Y.mv rfl) rfl $ Kt 9 rfl (by kernel_rfl) hS (fun w' hM => Y.mv rfl) rfl $ Ku 4 rfl (by kernel_rfl) hS (Y.load rfl U5 rfl (RdL.cellA (l := row) (j := k) (hM.arg0 hp) rfl hk')) (fun w' hM => Y.load rfl U5 rfl (RdL.cellA (l := row) (j := k) (hM.arg0 hp) rfl hk')) rfl ?_
  rw [u8c, at_get hk']
  refine Ku 5 rfl (by kernel_rfl) hS (Y.conv rfl U5 U3 (IntWalk.i64_in _ (by omega))) (fun w' hM => Y.conv rfl U5 U3 (IntWalk.i64_in _ (by omega))) rfl $ H.only 10 rfl (by kernel_rfl) $ E.call rfl rfl (rpred_ret m p q row prior k _ (by omega) (hM.arg0 hp) (hM.arg0 hq) (by omega) (hpr.imp id (fun h => by omega)) (by omega)) ?_
  rintro _ w3 ⟨rfl, x3⟩
  have hM := hM.ext x3
  have hS := hM.pick [] (by decide)
  refine H.back hS $ Kt 11 rfl (by kernel_rfl) hS (fun w' hM => Y.sub' rfl rfl (by omega)) rfl $ Ku 12 rfl (by kernel_rfl) hS (Y.conv rfl U3 U5 (c := ((filk m row prior k).toNat : Int)) (wrapS hpl)) (fun w' hM => Y.conv rfl U3 U5 (c := ((filk m row prior k).toNat : Int)) (wrapS hpl)) rfl $ H.only 13 rfl (by kernel_rfl) $ E.mk1M (enc := u8) (filk m row prior k) hM rfl U22 elem_Tuint8 rfl rfl ?_
  intro v37 w4 hM
  have hS := hM.pick [] (by decide)
  refine H.back hS $ H.only 14 rfl (by kernel_rfl) $ E.appendM 0 hM rfl rfl rfl U22 elem_Tuint8 (hM.sl 1 rfl) (fun _ => rfl) (by rw [hul, List.length_singleton]; omega) (by rw [hul, List.length_singleton]; omega) rfl ?_
  intro v38 w5 hM
  have hS := hM.pick [] (by decide)
  refine H.back hS $ Kt 15 rfl (by kernel_rfl) hS (fun w' hM => Y.asg rfl) rfl $ H.done (by kernel_rfl) $ X.outN $ X.next $ C.region $ Km rfl $ E.add rfl rfl (by omega) rfl $ Kn rfl $ E.nil $ ?_
  rw [← tab_succ] at hM
  refine X.again2 (k + 1) _ (Sub.cons rfl $ S1 rfl) rfl ⟨hM.pick [0] (by decide), by omega⟩ (by omega)
 obtain rfl : k = row.length := by omega
 refine Kx $ Kb $ Km rfl $ Kn rfl $ Kc rfl $ C.ret $ ret2 rfl rfl rfl ?_
 exact ⟨vo, rfl, hM⟩
end Go.Proofs.YtajklleiifhipaaGreatDoor
namespace Go.Proofs.YtajklleiifhipaaGreatDoor
open Go.RowKit Sym
theorem xor_ext (x : BitVec 32) (c : UInt8) : bits .xor .u32 (x.toNat : Int) (c.toNat : Int) = ((x ^^^ Crc.ext c).toNat : Int) := by
 rw [← bits_xor32, ext_toNat]
theorem xor_ones (x : BitVec 32) : bits .xor .u32 (x.toNat : Int) 4294967295 = ((~~~ x).toNat : Int) := by
 have h := bits_xor32 x 0xffffffff#32
 have e : x ^^^ 0xffffffff#32 = ~~~ x := by
  apply BitVec.eq_of_getLsbD_eq; intro i hi
  have : ∀ i, i < 32 → (0xffffffff#32).getLsbD i = true := by decide
  rw [BitVec.getLsbD_xor, this i hi, BitVec.getLsbD_not]; simp [hi]
 rw [e] at h; exact h
theorem rCRC32_ret (p : Value) (l : List UInt8) (w : World) (hp : RdL u8 w p l) :
  Ret Tryz.prog 53 #[p] w fun v w' => v = u32 (Crc.crc l) ∧ w = w' := by
 have hle : l.length ≤ 9223372036854775807 := Rd.le hp
 refine enter Tryz.func53 rfl (by kernel_rfl) Tryz.ntmps53 rfl $ Kb $ Kd rfl $ Kc rfl $ C.seq $ Kb $ Kc rfl $ C.block $ C.loop (G := Nat) (fun k => [(0, p), (3, u32 (Crc.reg 0xffffffff#32 (l.take k))), (4, i64 k)]) (fun k w' => k ≤ l.length ∧ w = w') (fun k => l.length - k) 0 ?_ ?_ ?_
 · exact Sub.cons rfl $ Sub.cons rfl $ S1 rfl
 · exact ⟨by omega, rfl⟩
 rintro k _ ⟨hk, rfl⟩
 refine C.seq $ Kb $ Kf rfl $ E.len rfl hp U22 rfl $ Kp rfl $ Ka $ C.cond' rfl (fun hc => ?_) (fun hc => ?_)
 ·
  have hk' : k < l.length := by omega
  have hb := u8_lt l[k]
  refine Kk $ C.seq $ C.block $ Kb $ Kf rfl $ Km rfl $ E.get (k := k) rfl rfl hp rfl hk' U22 (by kernel_rfl) U5 rfl rfl rfl $ E.conv rfl U5 U58 (IntWalk.u32_in _ (by omega)) rfl $ E.binw rfl rfl rfl (congrArg _ (xor_ext _ _)) rfl $ Kd rfl $ Kc rfl $ C.block $ C.loop (G := Nat) (fun m => [(0, p), (3, u32 (Crc.steps m (Crc.reg 0xffffffff#32 (l.take k) ^^^ Crc.ext l[k]))), (4, i64 k), (5, i64 m)]) (fun m w' => m ≤ 8 ∧ w = w') (fun m => 8 - m) 0 ?_ ?_ ?_
  · exact Sub.cons rfl $ Sub.cons rfl $ Sub.cons rfl $ S1 rfl
  · exact ⟨by omega, rfl⟩
  rintro m _ ⟨hm, rfl⟩
  refine C.seq $ Kb $ Km rfl $ Kp rfl $ Ka $ C.cond' rfl (fun hc => ?_) (fun hc => ?_)
  ·
   refine Kk $ C.seq $ C.block $ C.region $ Km rfl $ E.call rfl rfl (rstep_ret _ _) ?_
   rintro _ _ ⟨rfl, rfl⟩
   refine Kn rfl $ E.nil $ X.outN $ X.next $ C.region $ Km rfl $ E.add rfl rfl (by omega) rfl $ Kn rfl $ E.nil $ X.again (m + 1) (Sub.cons rfl $ Sub.cons (by rw [Crc.steps_succ]; rfl) $ Sub.cons rfl $ S1 rfl) ⟨by omega, rfl⟩ (by omega)
  obtain rfl : m = 8 := by omega
  refine C.exit $ X.exitT $ X.exitT $ X.outE $ X.outN $ X.next $ C.region $ Km rfl $ E.add rfl rfl (by omega) rfl $ Kn rfl $ E.nil $ X.again (k + 1) (Sub.cons rfl $ Sub.cons (by rw [reg_take _ l k hk']; rfl) $ S1 rfl) ⟨by omega, rfl⟩ (by omega)
 obtain rfl : k = l.length := by omega
 refine Kx $ Kb $ Km rfl $ E.binw rfl rfl rfl (congrArg _ (xor_ones _)) rfl $ Kc rfl $ C.ret $ ret1 rfl rfl ?_
 exact ⟨by rw [List.take_length]; rfl, rfl⟩
end Go.Proofs.YtajklleiifhipaaGreatDoor
namespace Go.Proofs.YtajklleiifhipaaGreatDoor
open Go.RowKit Sym
open Pg
theorem q35CRC32_ret (p : Value) (l : List UInt8) (w : World) (hp : RdL u8 w p l) :
  Ret Tryz.prog 53 #[p] w fun v w' => v = u32 (Crc.crc l) ∧ Ext w w' := (rCRC32_ret p l w hp).mono fun v w' ⟨h, e⟩ => ⟨h, e ▸ Ext.refl w⟩
theorem four35_ret (n : Nat) (w : World) (hn : n < 4294967296) :
  Ret Tryz.prog 25 #[i64 (n : Int)] w fun v w' => M w Nn w' [Rg.sl u8 5 v (Jn.enc4 n)] := by
 have hM := M.start w
 refine enter Tryz.func25 rfl (by kernel_rfl) Tryz.ntmps25 rfl $ Kb $ Kd rfl $ Km rfl $ E.shr rfl rfl (by decide) (c := _ / 16777216) rfl rfl $ E.conv rfl U3 U5 (c := ((UInt8.ofNat (n / 16777216)).toNat : Int)) (wrap8 (n / 16777216)) rfl $ Km rfl $ E.shr rfl rfl (by decide) (c := _ / 65536) rfl rfl $ E.conv rfl U3 U5 (c := ((UInt8.ofNat (n / 65536)).toNat : Int)) (wrap8 (n / 65536)) rfl $ Km rfl $ E.shr rfl rfl (by decide) (c := _ / 256) rfl rfl $ E.conv rfl U3 U5 (c := ((UInt8.ofNat (n / 256)).toNat : Int)) (wrap8 (n / 256)) rfl $ Km rfl $ E.conv rfl U3 U5 (c := ((UInt8.ofNat (n)).toNat : Int)) (wrap8 (n)) rfl $ E.mkM (enc := u8) (e := 5) (Jn.enc4 n) hM rfl (fun _ => by kernel_rfl) rfl rfl rfl ?_
 intro v14 w0 hM
 refine Kc rfl $ C.ret $ ret1 rfl rfl ?_
 exact hM
theorem let35_ret (t : List UInt8) (w : World) (ht : t.length ≤ 1000000000) :
  Ret Tryz.prog 52 #[str t] w fun v w' => v = .bool (decide (let4 t)) ∧ Ext w w' := by
 have hsz := str_size t
 have hM := M.start w
 refine enter Tryz.func52 rfl (by kernel_rfl) Tryz.ntmps52 rfl $ Kb $ Kc rfl $ C.seq $ Kb $ Kc rfl $ C.block $ C.loop1 [(0, _)] rfl (fun (k : Nat) => [(3, i64 k)]) (fun (k : Nat) w' => M w (Nn) w' [] ∧ k ≤ t.length ∧ ∀ c ∈ t.take k, isL c = true) (fun (k : Nat) => t.length - k) 0 ?_ ?_ ?_
 · exact S1 rfl
 · exact ⟨hM, Nat.zero_le _, fun c hc => by simp at hc⟩
 rintro k w0 ⟨hM, hk, hall⟩
 refine C.seq $ Kb $ Kf rfl $ E.lenS rfl U9 rfl $ Kp rfl $ Ka $ C.cond' rfl (fun hC0 => ?_) (fun hC0 => ?_)
 ·
  have hk' : k < t.length := by omega
  refine Kk $ C.seq $ C.block $ C.chainE [(0, _), (3, _)] rfl [(32, .bool (decide (¬ ((65 ≤ t[k].toNat ∧ t[k].toNat ≤ 90) ∨ (97 ≤ t[k].toNat ∧ t[k].toNat ≤ 122)))))] ?_ ?_
  ·
   refine C.region $ Kf rfl $ E.idxS k t[k] rfl rfl rfl (str_get hk') U9 rfl ?_
   rw [show u8 t[k] = .int .u8 ((t[k].toNat : Nat) : Int) from rfl]
   refine Kp rfl $ Km rfl $ E.split 14 rfl (fun g14 => ?_) (fun g14 => ?_)
   ·
    try simp only [Ya, Yb, Yc, Yd, Ye, Yf] at g14
    refine Ko rfl $ Km rfl $ Ko rfl $ Km rfl $ Ko rfl $ E.idxS k t[k] rfl rfl rfl (str_get hk') U9 rfl ?_
    rw [show u8 t[k] = .int .u8 ((t[k].toNat : Nat) : Int) from rfl]
    refine Ko rfl $ Kp rfl $ Kr rfl $ Km rfl $ E.split 20 rfl (fun g20 => ?_) (fun g20 => ?_)
    ·
     try simp only [Ya, Yb, Yc, Yd, Ye, Yf] at g20
     refine Kq rfl $ Kq rfl $ Kq rfl $ Kq rfl $ Kq rfl $ E.offu rfl rfl rfl $ E.offu rfl rfl rfl $ E.offu rfl rfl rfl $ E.offu rfl rfl rfl $ Kq rfl $ Kr rfl $ E.not rfl rfl $ E.nil $ X.join0 (Sub.cons (look_eq rfl (congrArg Value.bool (by exact (decide_eq_false (p := ¬ ((65 ≤ t[k].toNat ∧ t[k].toNat ≤ 90) ∨ (97 ≤ t[k].toNat ∧ t[k].toNat ≤ 122))) (by omega)).symm))) $ Sub.nil _) rfl rfl
    try simp only [Ya, Yb, Yc, Yd, Ye, Yf] at g20
    refine Ko rfl $ Km rfl $ Ko rfl $ Km rfl $ Ko rfl $ E.idxS k t[k] rfl rfl rfl (str_get hk') U9 rfl ?_
    rw [show u8 t[k] = .int .u8 ((t[k].toNat : Nat) : Int) from rfl]
    refine Ko rfl $ Kp rfl $ Ko rfl $ Km rfl $ E.split 25 rfl (fun g25 => ?_) (fun g25 => ?_)
    ·
     try simp only [Ya, Yb, Yc, Yd, Ye, Yf] at g25
     refine Ko rfl $ Km rfl $ Ko rfl $ Km rfl $ Ko rfl $ E.idxS k t[k] rfl rfl rfl (str_get hk') U9 rfl ?_
     rw [show u8 t[k] = .int .u8 ((t[k].toNat : Nat) : Int) from rfl]
     refine Ko rfl $ Kp rfl $ Ko rfl $ Kr rfl $ Kr rfl $ E.not rfl rfl $ E.nil $ X.join0 (Sub.cons (look_eq rfl (congrArg Value.bool (by exact (decide_not).symm.trans (decide_eq_decide.2 ⟨fun h => by omega, fun h => by omega⟩)))) $ Sub.nil _) rfl rfl
    try simp only [Ya, Yb, Yc, Yd, Ye, Yf] at g25
    refine Kq rfl $ Kq rfl $ Kq rfl $ Kq rfl $ Ko rfl $ Kr rfl $ Kr rfl $ E.not rfl rfl $ E.nil $ X.join0 (Sub.cons (look_eq rfl (congrArg Value.bool (by exact (decide_eq_true (p := ¬ ((65 ≤ t[k].toNat ∧ t[k].toNat ≤ 90) ∨ (97 ≤ t[k].toNat ∧ t[k].toNat ≤ 122))) (by omega)).symm))) $ Sub.nil _) rfl rfl
   try simp only [Ya, Yb, Yc, Yd, Ye, Yf] at g14
   refine Kq rfl $ Kq rfl $ Kq rfl $ Kq rfl $ Kr rfl $ Km rfl $ Ko rfl $ Km rfl $ Ko rfl $ Km rfl $ Ko rfl $ E.idxS k t[k] rfl rfl rfl (str_get hk') U9 rfl ?_
   rw [show u8 t[k] = .int .u8 ((t[k].toNat : Nat) : Int) from rfl]
   refine Ko rfl $ Kp rfl $ Ko rfl $ Km rfl $ E.split 25 rfl (fun g25 => ?_) (fun g25 => ?_)
   ·
    try simp only [Ya, Yb, Yc, Yd, Ye, Yf] at g25
    refine Ko rfl $ Km rfl $ Ko rfl $ Km rfl $ Ko rfl $ E.idxS k t[k] rfl rfl rfl (str_get hk') U9 rfl ?_
    rw [show u8 t[k] = .int .u8 ((t[k].toNat : Nat) : Int) from rfl]
    refine Ko rfl $ Kp rfl $ Ko rfl $ Kr rfl $ Kr rfl $ E.not rfl rfl $ E.nil $ X.join0 (Sub.cons (look_eq rfl (congrArg Value.bool (by exact (decide_not).symm.trans (decide_eq_decide.2 ⟨fun h => by omega, fun h => by omega⟩)))) $ Sub.nil _) rfl rfl
   try simp only [Ya, Yb, Yc, Yd, Ye, Yf] at g25
   refine Kq rfl $ Kq rfl $ Kq rfl $ Kq rfl $ Ko rfl $ Kr rfl $ Kr rfl $ E.not rfl rfl $ E.nil $ X.join0 (Sub.cons (look_eq rfl (congrArg Value.bool (by exact (decide_eq_true (p := ¬ ((65 ≤ t[k].toNat ∧ t[k].toNat ≤ 90) ∨ (97 ≤ t[k].toNat ∧ t[k].toNat ≤ 122))) (by omega)).symm))) $ Sub.nil _) rfl rfl
  refine C.cond' rfl (fun hC1 => ?_) (fun hC1 => ?_)
  ·
   refine Kb $ Kc rfl $ C.ret $ X.retB $ X.retT $ X.retT $ X.retB $ X.retT $ ret1 rfl rfl ?_
   exact ⟨congrArg _ (decide_eq_false fun h => by have := h.2 t[k] (List.getElem_mem hk'); exact hC1 (of_decide_eq_true this)).symm, hM.toExt⟩
  refine C.skip $ X.outN $ X.next $ C.region $ Km rfl $ E.add rfl rfl (by omega) rfl $ Kn rfl $ E.nil $ X.again1 (k + 1) (S1 rfl) rfl ⟨hM, by omega, all_takeN hk' hall (decide_eq_true (Decidable.not_not.1 hC1))⟩ (by omega)
 obtain rfl : k = t.length := by omega
 rw [List.take_length] at hall
 refine Kx $ Kb $ Km rfl $ E.lenS rfl U9 rfl $ Kp rfl $ Kc rfl $ C.ret $ ret1 rfl rfl ?_
 exact ⟨congrArg _ (decide_eq_decide.2 ⟨fun h => ⟨by omega, hall⟩, fun h => by have := h.1; omega⟩), hM.toExt⟩
end Go.Proofs.YtajklleiifhipaaGreatDoor
namespace Go.Proofs.YtajklleiifhipaaGreatDoor.Sym
open Go.RowKit
def OwnZ (w : World) (e : TypeId) (v : Value) (l : List UInt8) : Prop :=
 ∃ g cap cur fz, v = .slice (some ⟨g, 0, none⟩) l.length cap ∧ w.heap[g]? = some (.cells cur e fz) ∧ (∀ j, j < cap → ¬ (fz.1 ≤ j ∧ j < fz.2)) ∧ l.length ≤ cap ∧ cap ≤ maxLen ∧ cur.size = cap ∧ cur.toList.take l.length = l.map u8
theorem OwnZ.rd {w : World} {e : TypeId} {v : Value} {l : List UInt8} (h : OwnZ w e v l) : RdL u8 w v l := by
 obtain ⟨g, cap, cur, fz, rfl, hg, _, hn, hm, hs, ht⟩ := h
 refine ⟨some ⟨g, 0, none⟩, cap, rfl, hn, hm, by simp, fun _ => ⟨_, _, rfl⟩, fun j u hu => ?_⟩
 show w.cell? ⟨g, 0 + j, none⟩ = _
 rw [Nat.zero_add, cell_of_row w g j cur e fz hg]
 rw [← ht, List.getElem?_take] at hu
 split at hu
 · simpa using hu
 cases hu
def Rg.sz (e : TypeId) (v : Value) (l : List UInt8) : Rg where
 fp k := v.ownBlock = some k
 ok w := OwnZ w e v l
 keep {w w'} hk h := by
  obtain ⟨g, cap, cur, fz, hv, hg, r⟩ := h
  exact ⟨g, cap, cur, fz, hv, by rw [hk g (by rw [hv]; rfl)]; exact hg, r⟩
 live {w} h k hk := by
  obtain ⟨g, cap, cur, fz, rfl, hg, _⟩ := h
  simp [Value.ownBlock] at hk
  subst hk
  exact (Array.getElem?_eq_some_iff.1 hg).1
section
variable {w0 w w' : World} {S : Nat → Prop} {rs : List Rg}
theorem M.sz {e : TypeId} {v : Value} {l : List UInt8} (h : M w0 S w rs) (i : Nat) (hi : rs[i]? = some (Rg.sz e v l)) : RdL u8 w v l := OwnZ.rd (h.ok hi)
end
theorem storeZ (P : Program) (g o : Nat) (t : TypeId) (fz : Nat × Nat) : ∀ (vs : List Value) (i : Nat) (cur : Array Value) (w : World), w.heap[g]? = some (.cells cur t fz) → (∀ j, j < cur.size → ¬ (fz.1 ≤ j ∧ j < fz.2)) → o + i + vs.length ≤ cur.size → (∀ v ∈ vs, v.oneCell' = true) →
  ∃ cur', (storeCells ⟨g, o, none⟩ vs i).run P w = .ok () (w.setRow g cur') ∧ cur'.size = cur.size ∧ cur'.toList.take (o + i + vs.length) = cur.toList.take (o + i) ++ vs := by
 intro vs
 induction vs with
 | nil => exact fun i cur w hg _ _ _ => ⟨cur, by rw [setRow_self w g cur t fz hg]; rfl, rfl, by simp⟩
 | cons v r ih =>
  intro i cur w hg hf hl h1
  rw [List.length_cons] at hl
  have hi : o + i < cur.size := by omega
  have ha : (⟨g, o, none⟩ : Addr).add i = ⟨g, o + i, none⟩ := by unfold Addr.add; split <;> simp_all
  have hc : w.cell? ⟨g, o + i, none⟩ = some cur[o + i] := by simp [World.cell?, hg, hi]
  have hz : w.frozen? ⟨g, o + i, none⟩ = false := by
   have := hf _ hi
   obtain ⟨a, b⟩ := fz
   simp only [World.frozen?, hg, Bool.and_eq_false_iff, decide_eq_false_iff_not]
   simp only at this
   by_cases k : a ≤ o + i
   · exact .inr fun h => this ⟨k, h⟩
   exact .inl k
  have hst : (store ((⟨g, o, none⟩ : Addr).add i) v).run P w = .ok () (w.setRow g (cur.setIfInBounds (o + i) v)) := by
   rw [ha, run_store P w _ v _ (h1 v (by simp)), hc]
   simp [hz, setCell_eq_setRow w g (o + i) cur t fz v hg]
  obtain ⟨c', e1, e2, e3⟩ := ih (i + 1) (cur.setIfInBounds (o + i) v) _ (setRow_heap w g cur _ t _ hg) (by simpa using hf) (by simp; omega) (fun x hx => h1 x (by simp [hx]))
  refine ⟨c', ?_, by simpa using e2, ?_⟩
  · simp only [storeCells, Sem.run_bind, hst, Result.andThen_ok, e1, setRow_setRow]
  rw [List.length_cons, show o + i + (r.length + 1) = o + (i + 1) + r.length by omega, e3, show o + (i + 1) = o + i + 1 by omega, Array.toList_setIfInBounds, List.take_add_one, List.getElem?_set_self (by simpa using hi), List.take_set_of_le (by omega)]
  simp
theorem run_appendZ {P : Program} {w : World} {t e : TypeId} {by_ : Nat} {v u : Value} {l m : List UInt8} (ty : TypeId) (ht : P.underlying t = some (.slice e)) (hE : Elem P e 1 by_) (hz : OwnZ w e v l) (hu : RdL u8 w u m) (h63 : l.length + m.length ≤ maxLen) (hby : (l.length + m.length) * by_ ≤ 140737488355328) :
    ∃ v' w', (Builtin.append_ #[t, t] ty #[v, u]).run P w = .ok v' w' ∧ OwnZ w' e v' (l ++ m) ∧ FrS (fun k => v.ownBlock = some k) w w' ∧ ∀ k, v'.ownBlock = some k → v.ownBlock = some k ∨ w.heap.size ≤ k := by
  obtain ⟨inf, z, hi, hzr, hs, hb, hzs, hpos⟩ := hE
  have hz0 := hz
  obtain ⟨g, cap, cur, fz, rfl, hg, hfz, hn, hm, hcs, htk⟩ := hz
  obtain ⟨a, c2, rfl, hc, hm2, hl, hsome, hat⟩ := hu
  have h9 : l.length + m.length ≤ 9223372036854775807 := by simp only [maxLen] at h63; omega
  have one : ∀ x ∈ m.map u8, x.oneCell' = true := fun x hx => by obtain ⟨b, _, rfl⟩ := List.mem_map.1 hx; rfl
  cases a with
  | some ad =>
    have hnews : ∀ j x, (m.map u8)[j]? = some x → w.cell? (ad.add j) = some x := fun j x hx => by
      have hp : 0 < (m.map u8).length := by have := (List.getElem?_eq_some_iff.1 hx).1; omega
      obtain ⟨b, off, hbo⟩ := hsome hp
      cases hbo
      rw [addr_add]; exact hat j x hx
    by_cases hroom : l.length + m.length ≤ cap
    · have hf := run_firstCells_some (P := P) w inf.size m.length ad m.length c2 (m.map u8) (by rw [hs]; exact hl) hnews
      rw [hs] at hf
      obtain ⟨cur', e1, e2, e3⟩ := storeZ P g l.length e fz (m.map u8) 0 cur w hg (by rw [hcs]; exact hfz) (by simp; omega) one
      have hr : (Builtin.append_ #[t, t] ty #[.slice (some ⟨g, 0, none⟩) l.length cap, .slice (some ad) m.length c2]).run P w = .ok (.slice (some ⟨g, 0, none⟩) (l.length + m.length) cap) (w.setRow g cur') := by
        simp [Builtin.append_, run_underlying ht, sizeOf, typeInfo, hi, hs, Builtin.lenOf, hroom, hf, Addr.add_lit, e1]
      refine ⟨_, _, hr, ⟨g, cap, cur', fz, by rw [List.length_append], setRow_heap w g cur _ e _ hg, hfz, by rw [List.length_append]; exact hroom, hm, by omega, ?_⟩, FrS.ofGrown (r := some g) ⟨rfl, rfl, rfl, by simp, fun k _ hk => setRow_other w g k _ (fun e => hk (by rw [e]))⟩ (fun k hk => hk), fun k hk => .inl hk⟩
      rw [List.length_append, List.map_append, ← htk]
      simpa using e3
    have hr := run_append_grow (P := P) w t ty e inf z ht hi hzr ⟨g, 0, none⟩ l.length cap (l.map u8) (by rw [hs]; simp) (fun j x hx => by
        have hh := (OwnZ.rd hz0)
        obtain ⟨a', c', ea, _, _, _, _, hat'⟩ := hh
        injection ea with ea1
        subst ea1
        rw [addr_add]; exact hat' j x hx) ad m.length c2 (m.map u8) (by rw [hs]; exact hl) hnews (by omega) (by omega) (growslice_fits (by omega) (by rw [hb]; exact hby))
    refine ⟨_, _, hr, ⟨w.heap.size, _, _, (0, 0), by rw [List.length_append], heap_alloc_new w.drew _, fun j _ h => by omega, by rw [List.length_append]; exact grownCap_ge _ _ _ _, grownCap_le_maxLen _ _ _ _ h63, ?_, ?_⟩, FrS.ofExt ((Ext.refl w).drew.alloc _), fun k hk => .inr ?_⟩
    · have := grownCap_ge w (l.length + m.length) cap e
      simp only [Array.size_append, List.size_toArray, size_zeroCells, hzs, List.length_map]
      omega
    · rw [List.length_append]
      simp only [Array.toList_append, List.append_assoc]
      rw [← List.append_assoc, ← List.map_append]
      exact List.take_left' (by simp)
    simp [Value.ownBlock] at hk; omega
  | none =>
    have hn0 : m = [] := by
      cases m with
      | nil => rfl
      | cons x r => obtain ⟨b, off, h⟩ := hsome (by simp); cases h
    subst hn0
    refine ⟨_, w, ?_, by rw [List.append_nil]; exact hz0, FrS.refl _ w, fun k h => .inl h⟩
    simp [Builtin.append_, run_underlying ht, sizeOf, typeInfo, hi, Builtin.lenOf, Builtin.firstCells, hn, storeCells]
section
variable {P : Program} {ops : Array Oper} {Q : Exit → Act → World → Prop} {s : St} {env : Env} {w0 w : World} {S : Nat → Prop} {rs : List Rg} {rest : List Oper}
variable {d : Nat} {ty : TypeId} {pos : String} {aft : Array Edge}
theorem E.appendZ {t e : Nat} {x y : Operand} {by_ : Nat} {v u : Value} {l m : List UInt8} (i : Nat) (hM : M w0 S w rs) (hi : rs[i]? = some (Rg.sz e v l)) (hx : ev env x = some v) (hy : ev env y = some u) (ht : P.underlying t = some (.slice e)) (hE : Elem P e 1 by_)
  (hu : RdL u8 w u m) (h63 : l.length + m.length ≤ 9223372036854775807) (hby : (l.length + m.length) * by_ ≤ 140737488355328) (hd : Nat.blt d s.n = true)
  (h : ∀ v' w', M w0 S w' (rs.set i (Rg.sz e v' (l ++ m))) → wpE P ops Q s rest ((d, v') :: env) w') :
  wpE P ops Q s (⟨some d, .call ⟨.builtin .append, #[x, y], #[t, t]⟩, ty, pos, aft, none⟩ :: rest) env w := by
 obtain ⟨v', w', hr, hz, hf, hb⟩ := run_appendZ (P := P) ty ht hE (hM.ok hi) hu (by unfold maxLen; omega) hby
 exact E.op (fun a ha => by simp [execOp, resolve, invoke, builtin, ha.ev hx, ha.ev hy, hr]) hd (h v' w' (hM.upd i hi hf hz hb))
theorem E.strbZ {src dst e : TypeId} {x : Operand} {l : List UInt8} (hM : M w0 S w rs) (hx : ev env x = some (str l)) (hs : P.underlying src = some .string) (ht : P.underlying dst = some (.slice e)) (he : P.underlying e = some (.int .u8)) (hl : l.length ≤ 1000000) (hd : Nat.blt d s.n = true)
    (h : ∀ v w', M w0 S w' (rs ++ [Rg.sz e v l]) → wpE P ops Q s rest ((d, v) :: env) w') : wpE P ops Q s (⟨some d, .convert src dst x, ty, pos, aft, none⟩ :: rest) env w := by
  have hr := run_bytes_of_string (P := P) w src dst e ⟨l.toArray⟩ hs ht he
  have hsz : (ByteArray.mk l.toArray).size = l.length := by simp [ByteArray.size]
  have hge := grownCap_ge w (ByteArray.mk l.toArray).size 0 e
  have hle := grownCap_le_maxLen w (ByteArray.mk l.toArray).size 0 e (by rw [hsz]; unfold maxLen; omega)
  generalize grownCap w (ByteArray.mk l.toArray).size 0 e = cap at *
  have hbz : (bytesRow ⟨l.toArray⟩ cap).size = cap := by unfold bytesRow; simp [ByteArray.size] at hge ⊢; omega
  rw [hsz] at hr hge
  refine E.op (v := .slice (some ⟨w.heap.size, 0, none⟩) l.length cap) (fun a ha => by simp only [execOp, ha.ev hx]; rw [Sem.run_bind, hr]; rfl) hd (h _ _ (hM.new ((Ext.refl w).drew.alloc _) ?_ ?_))
  · refine ⟨w.heap.size, cap, _, _, rfl, heap_alloc_new w.drew _, fun j hj h => by rw [hbz] at h; omega, hge, hle, hbz, ?_⟩
    unfold bytesRow
    rw [Array.toList_append, List.take_append_of_le_length (by simp), Array.toList_map]
    exact List.take_of_length_le (by simp)
  intro k hk; simp [Rg.sz, Value.ownBlock] at hk; omega
theorem E.litZ {n d2 : Nat} {ty2 : TypeId} {pos2 : String} {aft2 : Array Edge} {t e : TypeId} {xs : List (Nat × Operand)} {vs : List (Nat × Value)} {l : List UInt8}
  (hM : M w0 S w rs) (hx : evp env xs = some vs) (hb : ∀ w, (Instr.buildSlice t n vs.toArray).run P w = .ok (.slice (some ⟨w.heap.size, 0, none⟩) n n) (w.alloc (.cells (l.map u8).toArray e))) (ht : P.underlying t = some (.slice e)) (he : P.underlying e = some (.int .u8)) (hl : l.length = n) (hn : n ≤ maxLen) (hd : Nat.blt d s.n = true) (hd2 : Nat.blt d2 s.n = true)
  (h : ∀ v w', M w0 S w' (rs ++ [Rg.sz e v l]) → wpE P ops Q s rest ((d2, v) :: (d, v) :: env) w') : wpE P ops Q s (⟨some d, .buildSlice t n xs.toArray, ty, pos, aft, none⟩ :: ⟨some d2, .convert t t (.tmp d), ty2, pos2, aft2, none⟩ :: rest) env w := by
 subst hl
 refine E.buildS hx hb hd $ E.op (v := .slice (some ⟨w.heap.size, 0, none⟩) l.length l.length) (w' := w.alloc (.cells (l.map u8).toArray e (l.length, l.length + 1))) (fun a ha => ?_) hd2 (h _ _ (hM.new (Ext.new _ _) ⟨w.heap.size, l.length, _, _, rfl, heap_alloc_new w _, fun j hj h => by simp at h; omega, Nat.le_refl _, hn, by simp, List.take_of_length_le (by simp)⟩ (fun k hk => by simp [Rg.sz, Value.ownBlock] at hk; omega)))
 have hv : a.eval (.tmp d) = .slice (some ⟨w.heap.size, 0, none⟩) l.length l.length := ha.ev (by show look _ d = _; rw [look_cons, if_pos rfl])
 have hr := Lib.run_convert_bytes_const (P := P) w t e (l.map u8).toArray l.length l.length ht he
 simp only [execOp, hv]
 rw [Sem.run_bind, hr]
 simp
end
end Go.Proofs.YtajklleiifhipaaGreatDoor.Sym
namespace Go.Proofs.YtajklleiifhipaaGreatDoor
open Go.RowKit Sym
open Pg
theorem neq_t {a b : Prop} [Decidable a] [Decidable b] (h : (decide a == decide b) = false) : ¬ (a ↔ b) := fun k => by
 by_cases hb : b
 · have ha := k.2 hb; simp [ha, hb] at h
 have ha : ¬ a := fun x => hb (k.1 x)
 simp [ha, hb] at h
theorem neq_f {a b : Prop} [Decidable a] [Decidable b] (h : (decide a == decide b) = true) : a ↔ b := by
 by_cases ha : a <;> by_cases hb : b <;> simp [ha, hb] at h ⊢
def gde (l : List Ck) (i : Nat) : Prop := ∀ (j : Nat) (h : j < l.length), j < i → (l[j]).1 = tE → (l[j]).2 = []
theorem gd_iff2 (l : List Ck) : gd l ↔ l ≠ [] ∧ gdi l l.length ∧ gde l l.length := by
 rw [gd_iff]
 refine and_congr_right fun hn => and_congr_right fun hg => ?_
 have hl0 : l.length - 1 < l.length := by have := List.length_pos_iff.2 hn; omega
 rw [lastd_get hl0]
 refine ⟨fun h j hj _ he => ?_, fun h => h _ hl0 hl0 ((hg _ hl0 hl0).2.2 (by omega))⟩
 have := (hg j hj hj).2.1 he
 obtain rfl : j = l.length - 1 := by omega
 exact h
theorem gde_succ {l : List Ck} {i : Nat} (hi : i < l.length) (h : gde l i) (h2 : (l[i]).1 = tE → (l[i]).2 = []) : gde l (i + 1) := fun j hj hji => by
 by_cases e : j = i
 · subst e; exact h2
 exact h j hj (by omega)
def CkOk (l : List Ck) (i : Nat) (hi : i < l.length) : Prop := (let4 (l[i]).1 ∧ ((l[i]).1 = tE ↔ i + 1 = l.length)) ∧ ((l[i]).1 = tE → (l[i]).2 = [])
instance (l : List Ck) (i : Nat) (hi : i < l.length) : Decidable (CkOk l i hi) := inferInstanceAs (Decidable (_ ∧ _))
set_option maxHeartbeats 4000000 in
theorem Join35_ret (p : Value) (hs : List Hd) (l : List Ck) (w : World) (hc : Cks w p hs l) (hb : ∀ c ∈ l, c.1.length ≤ 1000000 ∧ c.2.length ≤ 4194304) :
  Ret Tryz.prog 26 #[p] w fun v w' => ∃ (vo : Value) (out : List UInt8) (e : Int), v = .tuple #[vo, i64 e] ∧ Ext w w' ∧ RdL u8 w' vo out ∧ JnV (jn l) out e := by
 have hM := M.start w
 refine enter Tryz.func26 rfl (by kernel_rfl) Tryz.ntmps26 rfl $ Kb $ Kn rfl $ Kc rfl $ C.seq $ Kb $ Km rfl $ E.lenv rfl hc.shape U35 rfl $ Kp rfl $ Ka $ C.cond' rfl (fun hC0 => ?_) (fun hC0 => ?_)
 ·
  refine Kb $ Kn rfl $ Kc rfl $ C.ret $ X.retT $ ret2 rfl rfl rfl ?_
  exact ⟨nilS, [], 4, rfl, hM.toExt, RdL.nil u8 _, .inr ⟨by decide, by rw [jn, if_pos (by omega)], rfl⟩⟩
 refine Kk $ C.seq $ Kb $ Kc rfl $ C.block $ C.loop1 [(0, _)] rfl (fun (i : Nat) => [(4, i64 i)]) (fun (i : Nat) w' => M w (Nn) w' [] ∧ i ≤ l.length ∧ gdi l i ∧ gde l i) (fun (i : Nat) => l.length - i) 0 ?_ ?_ ?_
 · exact S1 rfl
 · exact ⟨hM, Nat.zero_le _, fun j _ h => by omega, fun j _ h => by omega⟩
 rintro i w0 ⟨hM, hi, hg, hge⟩
 refine C.seq $ Kb $ Kf rfl $ E.lenv rfl hc.shape U35 rfl $ Kp rfl $ Ka $ C.cond' rfl (fun hC1 => ?_) (fun hC1 => ?_)
 ·
  have hi' : i < l.length := by omega
  have hbi := hb l[i] (List.getElem_mem hi')
  refine Kk $ C.seq $ C.block $ C.cut0 [(0, _), (4, _)] rfl [(54, .bool (decide (¬ CkOk l i hi')))] (fun w' => M w (Nn) w' []) ?_ ?_
  ·
   refine C.region $ Kf rfl $ E.idxF (k := i) rfl rfl (hc.row.ext hM.toExt) rfl (by rw [zc_len hc.len]; omega) (by decide) U35 (by kernel_rfl) rfl $ E.fld (o := 0) (sz := 0) rfl U39 rfl rfl (by kernel_rfl) rfl $ E.load rfl U9 rfl ((hc.ext hM.toExt).at hi' 0 _ rfl) rfl $ E.call rfl rfl (let35_ret (l[i]).1 _ (by omega)) ?_
   rintro _ w3 ⟨rfl, x3⟩
   have hM := hM.ext x3
   refine E.not rfl rfl $ Km rfl $ E.split 24 rfl (fun g24 => ?_) (fun g24 => ?_)
   ·
    try simp only [Ya, Yb, Yc, Yd, Ye, Yf] at g24
    have hn4 : ¬ let4 (l[i]).1 := by simpa using g24
    refine Kq rfl $ Kq rfl $ Kq rfl $ Kq rfl $ Kq rfl $ Kq rfl $ Kq rfl $ Kq rfl $ Kq rfl $ Kq rfl $ Kq rfl $ Kq rfl $ Kr rfl $ Km rfl $ Kq rfl $ Kq rfl $ Kq rfl $ Kq rfl $ Kq rfl $ Kq rfl $ Kq rfl $ E.offu rfl rfl rfl $ E.offu rfl rfl rfl $ E.offu rfl rfl rfl $ E.offu rfl rfl rfl $ E.offu rfl rfl rfl $ E.offu rfl rfl rfl $ E.offu rfl rfl rfl $ Kq rfl $ Kr rfl $ E.nil $ X.join0  (Sub.cons (look_eq rfl (congrArg Value.bool (decide_eq_true (p := ¬ CkOk l i hi') (fun h => hn4 h.1.1)).symm)) $ Sub.nil _) rfl hM
   try simp only [Ya, Yb, Yc, Yd, Ye, Yf] at g24
   have h4 : let4 (l[i]).1 := by simpa using g24
   refine Ko rfl $ Km rfl $ Ko rfl $ Km rfl $ Ko rfl $ E.idxF (k := i) rfl rfl (hc.row.ext hM.toExt) rfl (by rw [zc_len hc.len]; omega) (by decide) U35 (by kernel_rfl) rfl $ Ko rfl $ E.fld (o := 0) (sz := 0) rfl U39 rfl rfl (by kernel_rfl) rfl $ Ko rfl $ E.load rfl U9 rfl ((hc.ext hM.toExt).at hi' 0 _ rfl) rfl $ Ko rfl $ E.eqstr (l := (l[i]).1) (m := tE) rfl rfl rfl $ Ko rfl $ Km rfl $ Ko rfl $ Km rfl $ Ko rfl $ E.lenv rfl hc.shape U35 rfl $ Ko rfl $ E.sub' rfl rfl (by omega) rfl $ Ko rfl $ Kp rfl $ Ko rfl $ E.neb rfl rfl Tryz.underlying4 rfl $ Kr rfl $ Km rfl $ E.split 38 rfl (fun g38 => ?_) (fun g38 => ?_)
   ·
    try simp only [Ya, Yb, Yc, Yd, Ye, Yf] at g38
    have g38' := neq_t g38
    refine Kq rfl $ Kq rfl $ Kq rfl $ Kq rfl $ Kq rfl $ Kq rfl $ Kq rfl $ E.offu rfl rfl rfl $ E.offu rfl rfl rfl $ E.offu rfl rfl rfl $ E.offu rfl rfl rfl $ E.offu rfl rfl rfl $ E.offu rfl rfl rfl $ E.offu rfl rfl rfl $ Kq rfl $ Kr rfl $ E.nil $ X.join0  (Sub.cons (look_eq rfl (congrArg Value.bool (decide_eq_true (p := ¬ CkOk l i hi') (fun h => g38' ⟨fun e => by have := h.1.2.1 e; omega, fun e => h.1.2.2 (by omega)⟩)).symm)) $ Sub.nil _) rfl hM
   try simp only [Ya, Yb, Yc, Yd, Ye, Yf] at g38
   have g38' := neq_f g38
   have hff : (l[i]).1 = tE ↔ i + 1 = l.length := ⟨fun e => by have := g38'.1 e; omega, fun e => g38'.2 (by omega)⟩
   refine Ko rfl $ Km rfl $ Ko rfl $ Km rfl $ Ko rfl $ E.idxF (k := i) rfl rfl (hc.row.ext hM.toExt) rfl (by rw [zc_len hc.len]; omega) (by decide) U35 (by kernel_rfl) rfl $ Ko rfl $ E.fld (o := 0) (sz := 0) rfl U39 rfl rfl (by kernel_rfl) rfl $ Ko rfl $ E.load rfl U9 rfl ((hc.ext hM.toExt).at hi' 0 _ rfl) rfl $ Ko rfl $ E.eqstr (l := (l[i]).1) (m := tE) rfl rfl rfl $ Ko rfl $ Km rfl $ E.split 45 rfl (fun g45 => ?_) (fun g45 => ?_)
   ·
    try simp only [Ya, Yb, Yc, Yd, Ye, Yf] at g45
    refine Ko rfl $ Km rfl $ Ko rfl $ Km rfl $ Ko rfl $ E.idxF (k := i) rfl rfl (hc.row.ext hM.toExt) rfl (by rw [zc_len hc.len]; omega) (by decide) U35 (by kernel_rfl) rfl $ Ko rfl $ E.fld (o := 1) (sz := 0) rfl U39 rfl rfl (by kernel_rfl) rfl $ Ko rfl $ E.load rfl U22 rfl ((hc.ext hM.toExt).at hi' 1 _ rfl) rfl $ Ko rfl $ E.lenv rfl (Rd.shape (hc.data hi')) U22 rfl $ Ko rfl $ Kp rfl $ Ko rfl $ Kr rfl $ Kr rfl $ E.nil $ X.join0  (Sub.cons (look_eq rfl (congrArg Value.bool (decide_eq_decide.2 ⟨fun h k => ne_len (by omega) (k.2 g45), fun h => Int.not_le.1 fun k => h ⟨⟨h4, hff⟩, fun _ => List.length_eq_zero_iff.1 (by omega)⟩⟩))) $ Sub.nil _) rfl hM
   try simp only [Ya, Yb, Yc, Yd, Ye, Yf] at g45
   refine Kq rfl $ Kq rfl $ Kq rfl $ Kq rfl $ Kq rfl $ Kq rfl $ Kq rfl $ Ko rfl $ Kr rfl $ Kr rfl $ E.nil $ X.join0  (Sub.cons (look_eq rfl (congrArg Value.bool (decide_eq_false (p := ¬ CkOk l i hi') (fun h => h ⟨⟨h4, hff⟩, fun e => (g45 e).elim⟩)).symm)) $ Sub.nil _) rfl hM
  rintro  w2 hM
  refine C.cond' rfl (fun hC2 => ?_) (fun hC2 => ?_)
  ·
   refine Kb $ Kn rfl $ Kc rfl $ C.ret $ X.retB $ X.retT $ X.retT $ X.retB $ X.retT $ ret2 rfl rfl rfl ?_
   exact ⟨nilS, [], 9, rfl, hM.toExt, RdL.nil u8 _, .inr ⟨by decide, by rw [jn, if_neg (by omega), if_pos (fun h => by obtain ⟨_, h1, h2⟩ := (gd_iff2 l).1 h; exact hC2 ⟨h1 i hi' hi', h2 i hi' hi'⟩)], rfl⟩⟩
  have hok := Decidable.not_not.1 hC2
  refine C.skip $ X.outN $ X.next $ C.region $ Km rfl $ E.add rfl rfl (by omega) rfl $ Kn rfl $ E.nil $ X.again1 (i + 1) (S1 rfl) rfl ⟨hM, by omega, gdi_succ hi' hg hok.1, gde_succ hi' hge hok.2⟩ (by omega)
 obtain rfl : i = l.length := by omega
 refine Kx $ C.seq $ Kb $ Km rfl $ E.lenv rfl hc.shape U35 rfl $ Kp rfl $ Ka $ C.cond' rfl (fun hC3 => ?_) (fun hC3 => ?_)
 ·
  refine Kb $ Kn rfl $ Kc rfl $ C.ret $ X.retT $ ret2 rfl rfl rfl ?_
  exact ⟨nilS, [], 9, rfl, hM.toExt, RdL.nil u8 _, .inr ⟨by decide, by rw [jn, if_neg (by omega), if_pos (fun h => gd_ne h (List.length_eq_zero_iff.1 (by omega)))], rfl⟩⟩
 have hgd : gd l := (gd_iff2 l).2 ⟨ne_len (by omega), hg, hge⟩
 refine Kk $ Kb $ E.litZ (l := sig) hM rfl (fun _ => by kernel_rfl) U22 U5 rfl (by decide) rfl rfl ?_
 intro v59 w3 hM
 refine Kc rfl $ C.seq $ Kb $ Kc rfl $ C.block $ C.loop2 [(0, _)] rfl (fun (i : Nat) (vp : Value) => [(5, vp), (6, i64 i)]) (fun (i : Nat) (vp : Value) w' => M w (Nn) w' [Rg.sz 5 vp (sig ++ cks (l.take i))] ∧ i ≤ l.length ∧ 8 + csz (l.take i) ≤ 4194304) (fun (i : Nat) (vp : Value) => l.length - i) 0 v59 ?_ ?_ ?_
 · exact Sub.cons rfl $ S1 rfl
 · exact ⟨hM, Nat.zero_le _, by rw [List.take_zero, csz_nil]; omega⟩
 rintro i vp w4 ⟨hM, hi, hcs⟩
 refine C.seq $ Kb $ Kf rfl $ E.lenv rfl hc.shape U35 rfl $ Kp rfl $ Ka $ C.cond' rfl (fun hC4 => ?_) (fun hC4 => ?_)
 ·
  have hi' : i < l.length := by omega
  have hbi := hb l[i] (List.getElem_mem hi')
  have hsu := csz_succ hi'
  have hmo := csz_mono l (i + 1)
  have hl4 := gd_let hgd
  have hckl := cks_len (l := l.take i) (fun c hc' => (hl4 c (List.mem_of_mem_take hc')).1)
  have hL : (sig ++ cks (l.take i)).length = 8 + csz (l.take i) := by rw [List.length_append, hckl]; rfl
  have h4 : (l[i]).1.length = 4 := (hl4 _ (List.getElem_mem hi')).1
  have hB : ((l[i]).1 ++ (l[i]).2).length = 4 + (l[i]).2.length := by rw [List.length_append, h4]
  refine Kk $ C.seq $ C.block $ C.seq $ Kb $ Kf rfl $ E.idxF (k := i) rfl rfl (hc.row.ext hM.toExt) rfl (by rw [zc_len hc.len]; omega) (by decide) U35 (by kernel_rfl) rfl $ E.fld (o := 1) (sz := 0) rfl U39 rfl rfl (by kernel_rfl) rfl $ E.load rfl U22 rfl ((hc.ext hM.toExt).at hi' 1 _ rfl) rfl $ E.lenv rfl (Rd.shape (hc.data hi')) U22 rfl $ Km rfl $ E.lenv rfl (Rd.shape (hM.sz 0 rfl)) U22 rfl ?_
  rw [hL]
  refine E.sub' rfl rfl (by omega) rfl $ Kp rfl $ Ka $ C.cond' rfl (fun hC5 => ?_) (fun hC5 => ?_)
  ·
   refine Kb $ Kn rfl $ Kc rfl $ C.ret $ X.retT $ X.retB $ X.retT $ X.retT $ X.retB $ X.retT $ ret2 rfl rfl rfl ?_
   exact ⟨nilS, [], 4, rfl, hM.toExt, RdL.nil u8 _, .inr ⟨by decide, by rw [jn, if_neg (by omega), if_neg (Classical.not_not.2 hgd), if_pos (by omega)], rfl⟩⟩
  refine Kk $ C.seq $ C.heldE (by kernel_rfl) fun wh5 hwh5 _ => ?_
  have hS := hwh5
  have hM0 := hM
  have hM := M.ofExt hwh5
  refine Kt 0 rfl (by kernel_rfl) hS (fun w' hS => by have hM := hM0.ext hS; exact Y.mv rfl) rfl $ Kt 1 rfl (by kernel_rfl) hS (fun w' hS => by have hM := hM0.ext hS; exact Y.mv rfl) rfl $ Ku 2 rfl (by kernel_rfl) hS (Y.idxF (k := i) rfl rfl (hc.row.ext (hM0.ext hS).toExt) rfl (by rw [zc_len hc.len]; omega) (by decide) U35 (by kernel_rfl)) (fun w' hS => by have hM := hM0.ext hS; exact Y.idxF (k := i) rfl rfl (hc.row.ext hM.toExt) rfl (by rw [zc_len hc.len]; omega) (by decide) U35 (by kernel_rfl)) rfl $ Ku 3 rfl (by kernel_rfl) hS (Y.fld (o := 0) (sz := 0) rfl U39 rfl rfl (by kernel_rfl)) (fun w' hS => by have hM := hM0.ext hS; exact Y.fld (o := 0) (sz := 0) rfl U39 rfl rfl (by kernel_rfl)) rfl $ Kt 6 rfl (by kernel_rfl) hS (fun w' hS => by have hM := hM0.ext hS; exact Y.mv rfl) rfl $ Kt 7 rfl (by kernel_rfl) hS (fun w' hS => by have hM := hM0.ext hS; exact Y.mv rfl) rfl $ Ku 8 rfl (by kernel_rfl) hS (Y.idxF (k := i) rfl rfl (hc.row.ext (hM0.ext hS).toExt) rfl (by rw [zc_len hc.len]; omega) (by decide) U35 (by kernel_rfl)) (fun w' hS => by have hM := hM0.ext hS; exact Y.idxF (k := i) rfl rfl (hc.row.ext hM.toExt) rfl (by rw [zc_len hc.len]; omega) (by decide) U35 (by kernel_rfl)) rfl $ Ku 9 rfl (by kernel_rfl) hS (Y.fld (o := 1) (sz := 0) rfl U39 rfl rfl (by kernel_rfl)) (fun w' hS => by have hM := hM0.ext hS; exact Y.fld (o := 1) (sz := 0) rfl U39 rfl rfl (by kernel_rfl)) rfl ?_
  refine Ku 4 rfl (by kernel_rfl) hS (Y.load rfl U9 rfl ((hc.ext (hM0.ext hS).toExt).at hi' 0 _ rfl)) (fun w' hS => by have hM := hM0.ext hS; exact Y.load rfl U9 rfl ((hc.ext hM.toExt).at hi' 0 _ rfl)) rfl $ Ku 10 rfl (by kernel_rfl) hS (Y.load rfl U22 rfl ((hc.ext (hM0.ext hS).toExt).at hi' 1 _ rfl)) (fun w' hS => by have hM := hM0.ext hS; exact Y.load rfl U22 rfl ((hc.ext hM.toExt).at hi' 1 _ rfl)) rfl $ H.only 5 rfl (by kernel_rfl) $ E.strbZ hM rfl U9 U22 U5 (by omega) rfl ?_
  intro v81 w6 hM
  have hS := hM.toExt
  refine H.back hS $ H.only 11 rfl (by kernel_rfl) $ E.appendZ 0 hM rfl rfl rfl U22 elem_Tuint8 ((hc.data hi').ext (hM0.ext hM.toExt).toExt) (by omega) (by omega) rfl ?_
  intro v87 w7 hM
  have hS := hM.toExt
  refine H.back hS $ Kt 12 rfl (by kernel_rfl) hS (fun w' hS => by have hM := hM0.ext hS; exact Y.asg rfl) rfl $ H.done (by kernel_rfl) ?_
  have hM := hM0.call hM
  refine X.next $ Kb $ Kf rfl $ Km rfl $ E.idxF (k := i) rfl rfl (hc.row.ext hM.toExt) rfl (by rw [zc_len hc.len]; omega) (by decide) U35 (by kernel_rfl) rfl $ E.fld (o := 1) (sz := 0) rfl U39 rfl rfl (by kernel_rfl) rfl $ E.load rfl U22 rfl ((hc.ext hM.toExt).at hi' 1 _ rfl) rfl $ E.lenv rfl (Rd.shape (hc.data hi')) U22 rfl $ E.call rfl rfl (four35_ret (l[i]).2.length _ (by omega)) ?_
  rintro v95 w8 m1
  have hM := hM.call m1
  refine E.appendZ 0 hM rfl rfl rfl U22 elem_Tuint8 (hM.sl 2 rfl) (by rw [Jn.enc4_len]; omega) (by rw [Jn.enc4_len]; omega) rfl ?_
  intro v96 w9 hM
  have hL1 : (sig ++ cks (l.take i) ++ Jn.enc4 (l[i]).2.length).length = 8 + csz (l.take i) + 4 := by rw [List.length_append, hL, Jn.enc4_len]
  refine Kd rfl $ Kf rfl $ E.appendZ 0 hM rfl rfl rfl U22 elem_Tuint8 (hM.sz 1 rfl) (by omega) (by omega) rfl ?_
  intro v99 w10 hM
  have hL2 : (sig ++ cks (l.take i) ++ Jn.enc4 (l[i]).2.length ++ ((l[i]).1 ++ (l[i]).2)).length = 8 + csz (l.take i) + 8 + (l[i]).2.length := by rw [List.length_append, hL1, hB]; omega
  refine Kc rfl $ C.region $ Kf rfl $ E.call rfl rfl (q35CRC32_ret _ _ _ (hM.sz 1 rfl)) ?_
  rintro _ w11 ⟨rfl, x11⟩
  have hM := hM.ext x11
  rw [crc_u32]
  have hcr := Jn.crcN_lt ((l[i]).1 ++ (l[i]).2)
  refine E.conv rfl U58 U3 (IntWalk.i64_in _ (by omega)) rfl $ E.call rfl rfl (four35_ret (Jn.crcN ((l[i]).1 ++ (l[i]).2)) _ hcr) ?_
  rintro v104 w12 m2
  have hM := hM.call m2
  refine E.appendZ 0 hM rfl rfl rfl U22 elem_Tuint8 (hM.sl 3 rfl) (by rw [Jn.enc4_len]; omega) (by rw [Jn.enc4_len]; omega) rfl ?_
  intro v105 w13 hM
  refine Kn rfl $ E.nil $ X.outN $ X.next $ C.region $ Km rfl $ E.add rfl rfl (by omega) rfl $ Kn rfl $ E.nil $ ?_
  rw [show sig ++ cks (l.take i) ++ Jn.enc4 (l[i]).2.length ++ ((l[i]).1 ++ (l[i]).2) ++ Jn.enc4 (Jn.crcN ((l[i]).1 ++ (l[i]).2)) = sig ++ cks (l.take (i + 1)) from by rw [cks_succ hi']; simp only [List.append_assoc]] at hM
  refine X.again2 (i + 1) _ (Sub.cons rfl $ S1 rfl) rfl ⟨hM.pick [0] (by decide), by omega, by omega⟩ (by omega)
 obtain rfl : i = l.length := by omega
 rw [List.take_length] at hM hcs
 refine Kx $ Kb $ Km rfl $ Kn rfl $ Kc rfl $ C.ret $ ret2 rfl rfl rfl ?_
 exact ⟨_, _, 0, rfl, hM.toExt, hM.sz 0 rfl, .inl ⟨rfl, by rw [jn, if_neg (by omega), if_neg (Classical.not_not.2 hgd), if_neg (by omega)]⟩⟩
end Go.Proofs.YtajklleiifhipaaGreatDoor
