/- Texts of the claim, laid together: Pg1. -/
import Derived.Test.YtajklleiifhipaaGreatDoorY0
import Derived.Test.YtajklleiifhipaaGreatDoorY5
import Derived.Test.YtajklleiifhipaaGreatDoorY11
import Derived.Test.YtajklleiifhipaaGreatDoorY12
import Derived.Test.YtajklleiifhipaaGreatDoorY13
set_option linter.unusedSimpArgs false
set_option linter.unusedVariables false
namespace Go.Proofs.YtajklleiifhipaaGreatDoor
open Go.RowKit Sym
namespace Pg
def fidN (m : Nat) : FuncId := if m = 0 then 85 else if m = 1 then 86 else if m = 2 then 87 else if m = 3 then 88 else 89
abbrev flt (m : Nat) : Value := fnv (fidN m) []
def fltI (m : Int) : Value := if 0 ≤ m ∧ m < 5 then flt m.toNat else .nilFunc
theorem fltI_one (m : Int) : (fltI m).oneCell' = true := by unfold fltI; split <;> rfl
def vk (b c k : Nat) : Nat := if k = 0 then b else c
def nrk (a b c : Nat) : Nat → Nat
 | 0 => a
 | 1 => if dst b ((a : Int) + b - c) < dst a ((a : Int) + b - c) then b else a
 | _ => nr a b c
theorem nrk_t {a b c k : Nat} (hk : k < 2) (h : dst (vk b c k) ((a : Int) + b - c) < dst (nrk a b c k) ((a : Int) + b - c)) : nrk a b c (k + 1) = vk b c k := by
 rcases (show k = 0 ∨ k = 1 by omega) with rfl | rfl
 · exact if_pos h
 exact if_pos h
theorem nrk_f {a b c k : Nat} (hk : k < 2) (h : ¬ dst (vk b c k) ((a : Int) + b - c) < dst (nrk a b c k) ((a : Int) + b - c)) : nrk a b c (k + 1) = nrk a b c k := by
 rcases (show k = 0 ∨ k = 1 by omega) with rfl | rfl
 · exact if_neg h
 exact if_neg h
theorem nrk_le {a b c : Nat} (ha : a ≤ 255) (hb : b ≤ 255) (hc : c ≤ 255) (k : Nat) : nrk a b c k ≤ 255 := by
 unfold nrk
 split
 · exact ha
 · split <;> assumption
 exact nr_le ha hb hc
theorem bf_pos {l : List UInt8} {i : Nat} (h : 0 < i) (hi : i - 1 < l.length) : ((l[i - 1]).toNat : Int) = (bf l i : Int) := by
 unfold bf at_
 rw [if_neg (by omega), List.getD_eq_getElem?_getD, List.getElem?_eq_getElem hi]; rfl
theorem at_get {l : List UInt8} {i : Nat} (hi : i < l.length) : ((l[i]).toNat : Int) = (at_ l i : Int) := by
 unfold at_
 rw [List.getD_eq_getElem?_getD, List.getElem?_eq_getElem hi]; rfl
theorem at_nil (i : Nat) : at_ [] i = 0 := rfl
theorem bf_nil (i : Nat) : bf [] i = 0 := by unfold bf; split <;> rfl
theorem wrapF {x p : Nat} (hp : p ≤ 255) : IntKind.u8.wrap ((x : Int) + -1 * (p : Int)) = ((UInt8.ofNat (x + 256 - p)).toNat : Int) := by
 rw [← wrap8]
 simp [IntKind.wrap, IntKind.bits, IntKind.signed]
 omega
theorem wrapU {x p : Nat} : IntKind.u8.wrap ((x : Int) + 1 * (p : Int)) = ((UInt8.ofNat (x + p)).toNat : Int) := by
 rw [Int.one_mul, ← Int.natCast_add, wrap8]
def filk (m : Nat) (row prior : List UInt8) (i : Nat) : UInt8 := UInt8.ofNat (at_ row i + 256 - pr m row prior i)
def unk (m : Nat) (row prior : List UInt8) (i : Nat) : UInt8 := UInt8.ofNat (at_ row i + pr m (unl m row prior i) prior i)
theorem unl_set {m n i : Nat} {row prior : List UInt8} (h : i < n) : (unl m row prior i ++ List.replicate (n - i) 0).set i (unk m row prior i) = unl m row prior (i + 1) ++ List.replicate (n - (i + 1)) 0 := by
 obtain ⟨k, hk⟩ : ∃ k, n - i = k + 1 := ⟨n - i - 1, by omega⟩
 rw [List.set_append_right _ _ (by rw [unl_len]; exact Nat.le_refl _), unl_len, Nat.sub_self, hk, List.replicate_succ, List.set_cons_zero, show n - (i + 1) = k by omega, unl, List.append_assoc]; rfl
theorem bf_unl {m i n : Nat} {row prior : List UInt8} (h : 0 < i) : ((unl m row prior i ++ List.replicate n 0)[i - 1]'(by rw [List.length_append, unl_len]; omega)).toNat = (bf (unl m row prior i) i) := by
 have h1 : i - 1 < (unl m row prior i).length := by rw [unl_len]; omega
 rw [List.getElem_append_left h1]
 have := bf_pos h h1
 omega
def apE (m : Int) (row prior : List UInt8) : Int := if ¬ (0 ≤ m ∧ m < 5) then 37 else if prior ≠ [] ∧ prior.length ≠ row.length then 7 else 0
def apO (f : Nat → List UInt8 → List UInt8 → List UInt8) (m : Int) (row prior : List UInt8) : List UInt8 := if apE m row prior = 0 then f m.toNat row prior else []
end Pg
open Pg
theorem at5 {w : World} {b : Nat} {l : List Value} {m : Nat} {v : Value} (h : At w b 0 l) (hv : l[m]? = some v) : At w b m [v] := fun j u hu => by
 cases j with
 | zero =>
  have := h m v hv
  simp at hu; subst hu
  rw [Nat.zero_add] at this; exact this
 | succ j => simp at hu
theorem u8c (x : UInt8) : u8 x = .int .u8 (x.toNat : Int) := rfl
theorem distance_ret (a b : Int) (w : World) (ha : -1000000 ≤ a ∧ a ≤ 1000000) (hb : -1000000 ≤ b ∧ b ≤ 1000000) :
  Ret Tryz.prog 126 #[i64 a, i64 b] w fun v w' => v = i64 (dst a b) ∧ Ext w w' := by
 have hM := M.start w
 refine enter Tryz.func126 rfl (by kernel_rfl) Tryz.ntmps126 rfl $ Kb $ Kd rfl $ Kf rfl $ E.sub' rfl rfl (by omega) rfl $ Kf rfl $ E.sub' rfl rfl (by omega) rfl $ E.max2 rfl rfl rfl $ Kc rfl $ C.ret $ ret1 rfl rfl ?_
 exact ⟨rfl, hM.toExt⟩
theorem nearest_ret (a b c : Nat) (w : World) (ha : a ≤ 255) (hb : b ≤ 255) (hc : c ≤ 255) :
  Ret Tryz.prog 89 #[i64 a, i64 b, i64 c] w fun v w' => v = i64 (nr a b c : Int) ∧ Ext w w' := by
 have hM := M.start w
 refine enter Tryz.func89 rfl (by kernel_rfl) Tryz.ntmps89 rfl $ Kb $ Kd rfl $ Km rfl $ Kc rfl $ C.seq $ Kb $ Kf rfl $ E.build (cs := [i64 b, i64 c]) rfl (by kernel_rfl) rfl $ Km rfl $ Ka $ C.block $ C.loop1 [(0, _), (1, _), (2, _), (13, _)] rfl (fun (k : Nat) => [(7, i64 (nrk a b c k : Int)), (14, i64 k)]) (fun (k : Nat) w' => M w (Nn) w' [] ∧ k ≤ 2) (fun (k : Nat) => 2 - k) 0 ?_ ?_ ?_
 · exact Sub.cons rfl $ S1 rfl
 · exact ⟨hM, by omega⟩
 rintro k w0 ⟨hM, hI⟩
 have hn := nrk_le ha hb hc k
 refine Kb $ Kp rfl $ Ka $ C.seq $ C.cond' rfl (fun hC0 => ?_) (fun hC0 => ?_)
 ·
  have hk2 : k < 2 := by omega
  have hv : vk b c k ≤ 255 := by unfold vk; split <;> assumption
  refine Kk $ C.cut0 [(0, _), (1, _), (2, _), (13, _), (14, _)] rfl [(7, i64 (nrk a b c (k + 1) : Int))] (fun w' => M w (Nn) w' []) ?_ ?_
  ·
   refine C.block $ Kb $ E.idxV (cs := [i64 b, i64 c]) (v := i64 ((vk b c k : Nat) : Int)) k rfl rfl rfl Tryz.underlying148 U3 (by kernel_rfl) hk2 (by rcases (show k = 0 ∨ k = 1 by omega) with rfl | rfl <;> rfl) rfl $ Kd rfl $ Kf rfl $ Km rfl $ E.add rfl rfl (by omega) rfl $ Km rfl $ E.sub' rfl rfl (by omega) rfl $ E.call rfl rfl (distance_ret _ _ _ (by omega) (by omega)) ?_
   rintro _ w1 ⟨rfl, x1⟩
   have hM := hM.ext x1
   refine Kf rfl $ Km rfl $ E.add rfl rfl (by omega) rfl $ Km rfl $ E.sub' rfl rfl (by omega) rfl $ E.call rfl rfl (distance_ret _ _ _ (by omega) (by omega)) ?_
   rintro _ w2 ⟨rfl, x2⟩
   have hM := hM.ext x2
   refine Kp rfl $ Ka $ C.cond' rfl (fun hC1 => ?_) (fun hC1 => ?_)
   ·
    refine C.region $ Km rfl $ Kn rfl $ E.nil $ X.outN $ X.join0  (Sub.cons (look_val rfl (by rw [nrk_t hk2 hC1])) $ Sub.nil _) rfl hM
   refine C.skip $ X.outN $ X.join0  (Sub.cons (look_val rfl (by rw [nrk_f hk2 hC1])) $ Sub.nil _) rfl hM
  rintro  w3 hM
  refine C.region $ E.add rfl rfl (by omega) rfl $ Km rfl $ E.nil $ X.again1 (k + 1) (Sub.cons rfl $ S1 rfl) rfl ⟨hM, by omega⟩ (by omega)
 obtain rfl : k = 2 := by omega
 refine Kx $ Kb $ Km rfl $ Kc rfl $ C.ret $ ret1 rfl rfl ?_
 exact ⟨rfl, hM.toExt⟩
theorem pred1_ret (a b c : Nat) (w : World) (ha : a ≤ 255) (hb : b ≤ 255) (hc : c ≤ 255) :
  Ret Tryz.prog 85 #[i64 a, i64 b, i64 c] w fun v w' => v = i64 (0 : Int) ∧ Ext w w' := by
 have hM := M.start w
 refine enter Tryz.func85 rfl (by kernel_rfl) Tryz.ntmps85 rfl $ Kb $ Kd rfl $ Kc rfl $ C.ret $ ret1 rfl rfl ?_
 exact ⟨rfl, hM.toExt⟩
theorem pred2_ret (a b c : Nat) (w : World) (ha : a ≤ 255) (hb : b ≤ 255) (hc : c ≤ 255) :
  Ret Tryz.prog 86 #[i64 a, i64 b, i64 c] w fun v w' => v = i64 (a : Int) ∧ Ext w w' := by
 have hM := M.start w
 refine enter Tryz.func86 rfl (by kernel_rfl) Tryz.ntmps86 rfl $ Kb $ Kd rfl $ Km rfl $ Kc rfl $ C.ret $ ret1 rfl rfl ?_
 exact ⟨rfl, hM.toExt⟩
theorem pred3_ret (a b c : Nat) (w : World) (ha : a ≤ 255) (hb : b ≤ 255) (hc : c ≤ 255) :
  Ret Tryz.prog 87 #[i64 a, i64 b, i64 c] w fun v w' => v = i64 (b : Int) ∧ Ext w w' := by
 have hM := M.start w
 refine enter Tryz.func87 rfl (by kernel_rfl) Tryz.ntmps87 rfl $ Kb $ Kd rfl $ Km rfl $ Kc rfl $ C.ret $ ret1 rfl rfl ?_
 exact ⟨rfl, hM.toExt⟩
theorem pred4_ret (a b c : Nat) (w : World) (ha : a ≤ 255) (hb : b ≤ 255) (hc : c ≤ 255) :
  Ret Tryz.prog 88 #[i64 a, i64 b, i64 c] w fun v w' => v = i64 (((a + b) / 2 : Nat) : Int) ∧ Ext w w' := by
 have hM := M.start w
 refine enter Tryz.func88 rfl (by kernel_rfl) Tryz.ntmps88 rfl $ Kb $ Kd rfl $ Kf rfl $ E.add rfl rfl (by omega) rfl $ E.quo rfl rfl (by omega) (IntWalk.i64_quo _ _ (by omega)) rfl $ Kc rfl $ C.ret $ ret1 rfl rfl ?_
 exact ⟨congrArg _ (by omega), hM.toExt⟩
theorem pred_ret (m : Nat) (a b c : Nat) (w : World) (ha : a ≤ 255) (hb : b ≤ 255) (hc : c ≤ 255) : Ret Tryz.prog (fidN m) #[i64 a, i64 b, i64 c] w fun v w' => v = i64 (prd m a b c : Int) ∧ Ext w w' := by
 unfold fidN prd
 by_cases h0 : m = 0
 · rw [if_pos h0, if_pos h0]; exact pred1_ret a b c w ha hb hc
 rw [if_neg h0, if_neg h0]
 by_cases h1 : m = 1
 · rw [if_pos h1, if_pos h1]; exact pred2_ret a b c w ha hb hc
 rw [if_neg h1, if_neg h1]
 by_cases h2 : m = 2
 · rw [if_pos h2, if_pos h2]; exact pred3_ret a b c w ha hb hc
 rw [if_neg h2, if_neg h2]
 by_cases h3 : m = 3
 · rw [if_pos h3, if_pos h3]; exact pred4_ret a b c w ha hb hc
 rw [if_neg h3, if_neg h3]; exact nearest_ret a b c w ha hb hc
theorem filterOf_ret (m : Int) (w : World) :
  Ret Tryz.prog 58 #[i64 m] w fun v w' => v = .tuple #[.agg #[fltI m], .bool (decide (0 ≤ m ∧ m < 5))] ∧ Ext w w' := by
 have hM := M.start w
 refine enter Tryz.func58 rfl (by kernel_rfl) Tryz.ntmps58 rfl $ Kb $ E.allocM (z := .agg #[.nilFunc]) (cs := [.nilFunc]) hM (by kernel_rfl) rfl rfl ?_
 intro b2 w0 hM
 refine Kc rfl $ C.seq $ C.chainE [(0, _), (2, _)] rfl [(10, .bool (decide (m < 0 ∨ 5 ≤ m)))] ?_ ?_
 ·
  refine C.region $ Km rfl $ Kp rfl $ Km rfl $ E.split 7 rfl (fun g7 => ?_) (fun g7 => ?_)
  ·
   try simp only [Ya, Yb, Yc, Yd, Ye, Yf] at g7
   refine Kq rfl $ Kq rfl $ Kr rfl $ E.nil $ X.join0 (Sub.cons (by exact leaf_t (by omega)) $ Sub.nil _) rfl rfl
  try simp only [Ya, Yb, Yc, Yd, Ye, Yf] at g7
  refine Ko rfl $ Km rfl $ Ko rfl $ Kp rfl $ Kr rfl $ E.nil $ X.join0 (Sub.cons (by exact leaf_d (by omega)) $ Sub.nil _) rfl rfl
 refine C.cond' rfl (fun hC0 => ?_) (fun hC0 => ?_)
 ·
  refine Kb $ E.buildC (cs := [_]) [.nilFunc] [] rfl rfl (by kernel_rfl) rfl ?_
  first
   | refine E.storeAM 0 hM rfl rfl rfl (by kernel_rfl) rfl ?_ ?_
   | refine E.storeAM 1 hM rfl rfl rfl (by kernel_rfl) rfl ?_ ?_
   | refine E.storeAM 2 hM rfl rfl rfl (by kernel_rfl) rfl ?_ ?_
   | refine E.storeAM 3 hM rfl rfl rfl (by kernel_rfl) rfl ?_ ?_
  · exact ones (by rfl) $ ones_nil
  intro w1 hM
  refine Kc rfl $ C.ret $ X.retT $ retAT rfl rfl rfl Tryz.underlying72 rfl (by exact hM.blk 0 rfl) (by kernel_rfl) ?_
  exact ⟨by unfold fltI; rw [if_neg (by omega), decide_eq_false (by omega)], hM.toExt⟩
 obtain ⟨m, rfl⟩ : ∃ n : Nat, m = (n : Int) := ⟨m.toNat, by omega⟩
 have hm5 : m < 5 := by omega
 refine Kk $ Kb $ E.buildC (cs := [_]) [.nilFunc] [0] rfl rfl (by kernel_rfl) rfl $ E.buildC (cs := [_]) [.nilFunc] [0] rfl rfl (by kernel_rfl) rfl $ E.buildC (cs := [_]) [.nilFunc] [0] rfl rfl (by kernel_rfl) rfl $ E.buildC (cs := [_]) [.nilFunc] [0] rfl rfl (by kernel_rfl) rfl $ E.buildC (cs := [_]) [.nilFunc] [0] rfl rfl (by kernel_rfl) rfl $ E.build (cs := [flt 0, flt 1, flt 2, flt 3, flt 4]) rfl (by kernel_rfl) rfl $ E.allocM (z := .agg #[.nilFunc, .nilFunc, .nilFunc, .nilFunc, .nilFunc]) (cs := [.nilFunc, .nilFunc, .nilFunc, .nilFunc, .nilFunc]) hM (by kernel_rfl) rfl rfl ?_
 intro b4 w2 hM
 first
  | refine E.storeAM 0 hM rfl rfl rfl (by kernel_rfl) rfl ?_ ?_
  | refine E.storeAM 1 hM rfl rfl rfl (by kernel_rfl) rfl ?_ ?_
  | refine E.storeAM 2 hM rfl rfl rfl (by kernel_rfl) rfl ?_ ?_
  | refine E.storeAM 3 hM rfl rfl rfl (by kernel_rfl) rfl ?_ ?_
 · exact ones (by rfl) $ ones (by rfl) $ ones (by rfl) $ ones (by rfl) $ ones (by rfl) $ ones_nil
 intro w3 hM
 refine Ke $ Km rfl $ E.idxN (i := m) rfl rfl Tryz.underlying110 (by kernel_rfl) (by omega) rfl $ E.loadA (cs := [flt m]) rfl Tryz.underlying72 rfl (by kernel_rfl) (at5 (hM.bat 1 rfl) (by rcases (show m = 0 ∨ m = 1 ∨ m = 2 ∨ m = 3 ∨ m = 4 by omega) with rfl | rfl | rfl | rfl | rfl <;> rfl)) rfl ?_
 first
  | refine E.storeAM 0 hM rfl rfl rfl (by kernel_rfl) rfl ?_ ?_
  | refine E.storeAM 1 hM rfl rfl rfl (by kernel_rfl) rfl ?_ ?_
  | refine E.storeAM 2 hM rfl rfl rfl (by kernel_rfl) rfl ?_ ?_
  | refine E.storeAM 3 hM rfl rfl rfl (by kernel_rfl) rfl ?_ ?_
 · exact ones (by rfl) $ ones_nil
 intro w4 hM
 refine Kc rfl $ C.ret $ retAT rfl rfl rfl Tryz.underlying72 rfl (by exact hM.blk 0 rfl) (by kernel_rfl) ?_
 exact ⟨by unfold fltI; rw [if_pos (by omega), decide_eq_true (by omega), Int.toNat_natCast], hM.toExt⟩
set_option maxHeartbeats 2000000 in
set_option maxRecDepth 8000 in
theorem apF_ret (m : Int) (p q : Value) (row prior : List UInt8) (w : World) (hp : RdL u8 w p row) (hq : RdL u8 w q prior) (hl : row.length ≤ 1000000) :
  Ret Tryz.prog 37 #[i64 m, i64 (-1), p, q] w fun v w' => ∃ vo, v = .tuple #[vo, i64 (apE m row prior)] ∧ M w Nn w' [Rg.sl u8 5 vo (apO fil m row prior)] := by
 have hM := M.start w
 refine enter Tryz.func37 rfl (by kernel_rfl) Tryz.ntmps37 rfl $ Kb $ Kn rfl $ Kd rfl $ Km rfl $ E.call rfl rfl (filterOf_ret m _) ?_
 rintro _ w1 ⟨rfl, x1⟩
 have hM := hM.ext x1
 refine Km rfl $ E.ext rfl rfl rfl $ E.ext rfl rfl rfl $ E.allocM (z := .agg #[.nilFunc]) (cs := [.nilFunc]) hM (by kernel_rfl) rfl rfl ?_
 intro b10 w1 hM
 refine E.storeAM 0 hM rfl rfl rfl (by kernel_rfl) rfl (ones (fltI_one m) ones_nil) ?_
 intro w2 hM
 refine Kc rfl $ C.seq $ Kb $ Km rfl $ E.not rfl rfl $ Ka $ C.cond rfl (fun hC0 => ?_) (fun hC0 => ?_)
 ·
  have hm5 : ¬ (0 ≤ m ∧ m < 5) := by simp at hC0; omega
  have hE : apE m row prior = 37 := if_pos hm5
  refine Kb $ Kn rfl $ Kc rfl $ C.ret $ X.retT $ ret2 rfl rfl rfl ?_
  exact ⟨_, by rw [hE], by rw [apO, if_neg (by rw [hE]; decide)]; exact (hM.pick [] (by decide)).nil u8 5⟩
 have hm5 : 0 ≤ m ∧ m < 5 := by simp at hC0; omega
 rw [fltI, if_pos hm5] at hM
 refine Kk $ C.seq $ C.chainE [(1, _), (2, _), (3, _), (10, _)] rfl [(35, .bool (decide (prior ≠ [] ∧ prior.length ≠ row.length)))] ?_ ?_
 ·
  refine C.region $ Km rfl $ E.lenv rfl (Rd.shape (hM.arg0 hq)) U22 rfl $ Kp rfl $ Km rfl $ E.split 29 rfl (fun g29 => ?_) (fun g29 => ?_)
  ·
   try simp only [Ya, Yb, Yc, Yd, Ye, Yf] at g29
   have hpn : prior ≠ [] := fun h => by rw [h] at g29; simp at g29
   refine Ko rfl $ Km rfl $ Ko rfl $ E.lenv rfl (Rd.shape (hM.arg0 hq)) U22 rfl $ Ko rfl $ Km rfl $ Ko rfl $ E.lenv rfl (Rd.shape (hM.arg0 hp)) U22 rfl $ Ko rfl $ Kp rfl $ Kr rfl $ E.nil $ X.join0 (Sub.cons (look_eq rfl (congrArg Value.bool (by exact decide_eq_decide.2 ⟨fun h => ⟨hpn, by omega⟩, fun h => by have := h.2; omega⟩))) $ Sub.nil _) rfl rfl
  try simp only [Ya, Yb, Yc, Yd, Ye, Yf] at g29
  have hpn : prior = [] := List.length_eq_zero_iff.1 (by omega)
  refine Kq rfl $ Kq rfl $ Kq rfl $ Kq rfl $ Kq rfl $ Kr rfl $ E.nil $ X.join0 (Sub.cons (look_eq rfl (congrArg Value.bool (by exact (decide_eq_false (by simp [hpn])).symm))) $ Sub.nil _) rfl rfl
 refine C.cond' rfl (fun hC1 => ?_) (fun hC1 => ?_)
 ·
  have hE : apE m row prior = 7 := by rw [apE, if_neg (Decidable.not_not.2 hm5), if_pos hC1]
  refine Kb $ Kn rfl $ Kc rfl $ C.ret $ X.retT $ ret2 rfl rfl rfl ?_
  exact ⟨_, by rw [hE], by rw [apO, if_neg (by rw [hE]; decide)]; exact (hM.pick [] (by decide)).nil u8 5⟩
 have hE : apE m row prior = 0 := by rw [apE, if_neg (Decidable.not_not.2 hm5), if_neg hC1]
 have hpl : prior = [] ∨ prior.length = row.length := by
  by_cases h : prior = []
  · exact .inl h
  exact .inr (Decidable.not_not.1 fun h2 => hC1 ⟨h, h2⟩)
 obtain ⟨m, rfl⟩ : ∃ n : Nat, m = (n : Int) := ⟨m.toNat, by omega⟩
 rw [Int.toNat_natCast] at hM
 have hO : apO fil (m : Int) row prior = fil m row prior := by rw [apO, if_pos hE, Int.toNat_natCast]
 rw [hE, hO]
 refine Kk $ Kb $ Km rfl $ E.lenv rfl (Rd.shape (hM.arg0 hp)) U22 rfl $ E.makeM (by_ := 1) (enc := u8) 0 hM rfl U22 (by kernel_rfl) rfl (by omega) (by omega) rfl ?_
 intro v38 w3 hM
 refine Kd rfl $ Km rfl $ Kc rfl $ C.cut0 [(1, _), (2, _), (3, _), (10, _), (12, _)] rfl [(13, p)] (fun w' => M w (Nn) w' [Rg.blk b10 72 [flt m], Rg.sl u8 5 v38 (List.replicate row.length 0)]) ?_ ?_
 ·
  refine Kb $ Km rfl $ Kp rfl $ Ka $ C.cond' rfl (fun hC2 => ?_) (fun hC2 => ?_)
  ·
   omega
  refine C.skip $ X.join0  (S1 rfl) rfl hM
 rintro  w4 hM
 refine C.seq $ Kb $ Km rfl $ E.lenv rfl (Rd.shape (hM.arg0 hp)) U22 rfl $ Km rfl $ Ka $ C.block $ C.loop1 [(1, _), (3, _), (10, _), (12, _), (13, _), (43, _), (44, _)] rfl (fun (i : Nat) => [(45, i64 i)]) (fun (i : Nat) w' => M w (Nn) w' [Rg.blk b10 72 [flt m], Rg.sl u8 5 v38 (tab i (filk m row prior) ++ List.replicate (row.length - i) 0 : List UInt8)] ∧ i ≤ row.length) (fun (i : Nat) => row.length - i) 0 ?_ ?_ ?_
 · exact S1 rfl
 · exact ⟨by (show M w Nn _ [_, Rg.sl u8 _ _ (tab 0 (filk m row prior) ++ List.replicate (row.length - 0) 0)]; (first | rw [Nat.sub_zero, tab_zero, List.nil_append] | rw [Nat.sub_zero, unl, List.nil_append])); exact hM, by omega⟩
 rintro i w5 ⟨hM, hI⟩
 refine Kb $ Kp rfl $ Ka $ C.seq $ C.cond' rfl (fun hC3 => ?_) (fun hC3 => ?_)
 ·
  have hi : i < row.length := by omega
  have hLl : (tab i (filk m row prior) ++ List.replicate (row.length - i) 0 : List UInt8).length = row.length := by rw [List.length_append, List.length_replicate, tab_len]; omega
  refine Kk $ C.seq $ C.block $ Kb $ Km rfl $ E.get (k := i) rfl rfl (hM.arg0 hp) rfl (by omega) U22 (by kernel_rfl) U5 rfl rfl rfl ?_
  rw [u8c, at_get hi]
  refine Kn rfl $ Kd rfl $ Kn rfl $ Kn rfl $ Kc rfl $ C.cut0 [(1, _), (3, _), (10, _), (12, _), (13, _), (14, _), (15, _), (17, _), (18, _), (43, _), (44, _), (45, _)] rfl [(16, i64 (bf row i : Int))] (fun w' => M w (Nn) w' [Rg.blk b10 72 [flt m], Rg.sl u8 5 v38 (tab i (filk m row prior) ++ List.replicate (row.length - i) 0 : List UInt8)]) ?_ ?_
  ·
   refine Kb $ Km rfl $ Kp rfl $ Ka $ C.cond' rfl (fun hC4 => ?_) (fun hC4 => ?_)
   ·
    refine C.region $ Kf rfl $ E.sub' rfl rfl (by omega) rfl $ E.get (k := i - 1) rfl rfl (hM.arg0 hp) (by omega) (by omega) U22 (by kernel_rfl) U5 rfl rfl rfl ?_
    rw [u8c]
    have h57 := bf_pos (l := row) (i := i) (by omega) (by omega)
    rw [h57]
    have hbl := bf_le row i
    refine E.conv rfl U5 U3 (IntWalk.i64_in _ (by omega)) rfl $ Kn rfl $ E.nil $ X.join0  (S1 rfl) rfl hM
   refine C.skip $ X.join0  (Sub.cons (look_val rfl (by rw [show i = 0 by omega]; rfl)) $ Sub.nil _) rfl hM
  rintro  w6 hM
  refine C.cut0 [(1, _), (3, _), (10, _), (12, _), (13, _), (14, _), (15, _), (16, _), (18, _), (43, _), (44, _), (45, _)] rfl [(17, i64 (at_ prior i : Int))] (fun w' => M w (Nn) w' [Rg.blk b10 72 [flt m], Rg.sl u8 5 v38 (tab i (filk m row prior) ++ List.replicate (row.length - i) 0 : List UInt8)]) ?_ ?_
  ·
   refine Kb $ Km rfl $ E.lenv rfl (Rd.shape (hM.arg0 hq)) U22 rfl $ Kp rfl $ Ka $ C.cond' rfl (fun hC5 => ?_) (fun hC5 => ?_)
   ·
    have hpr : prior.length = row.length := hpl.resolve_left (fun h => by rw [h] at hC5; simp at hC5)
    refine C.region $ Kf rfl $ E.get (k := i) rfl rfl (hM.arg0 hq) rfl (by omega) U22 (by kernel_rfl) U5 rfl rfl rfl ?_
    rw [u8c, at_get (show i < prior.length by omega)]
    have hal := at_le prior i
    refine E.conv rfl U5 U3 (IntWalk.i64_in _ (by omega)) rfl $ Kn rfl $ E.nil $ X.join0  (S1 rfl) rfl hM
   obtain rfl : prior = [] := List.length_eq_zero_iff.1 (by omega)
   refine C.skip $ X.join0  (S1 rfl) rfl hM
  rintro  w7 hM
  refine C.cut0 [(1, _), (3, _), (10, _), (12, _), (13, _), (14, _), (15, _), (16, _), (17, _), (43, _), (44, _), (45, _)] rfl [(18, i64 (bf prior i : Int))] (fun w' => M w (Nn) w' [Rg.blk b10 72 [flt m], Rg.sl u8 5 v38 (tab i (filk m row prior) ++ List.replicate (row.length - i) 0 : List UInt8)]) ?_ ?_
  ·
   refine C.chainE [(1, _), (3, _), (10, _), (12, _), (13, _), (14, _), (15, _), (16, _), (17, _), (18, _), (43, _), (44, _), (45, _)] rfl [(72, .bool (decide (0 < i ∧ 0 < prior.length)))] ?_ ?_
   ·
    refine C.region $ Km rfl $ Kp rfl $ Km rfl $ E.split 68 rfl (fun g68 => ?_) (fun g68 => ?_)
    ·
     try simp only [Ya, Yb, Yc, Yd, Ye, Yf] at g68
     refine Ko rfl $ Km rfl $ Ko rfl $ E.lenv rfl (Rd.shape (hM.arg0 hq)) U22 rfl $ Ko rfl $ Kp rfl $ Kr rfl $ E.nil $ X.join0 (Sub.cons (by exact leaf_d (by omega)) $ Sub.nil _) rfl rfl
    try simp only [Ya, Yb, Yc, Yd, Ye, Yf] at g68
    refine Kq rfl $ Kq rfl $ Kq rfl $ Kr rfl $ E.nil $ X.join0 (Sub.cons (by exact leaf_f (by omega)) $ Sub.nil _) rfl rfl
   refine C.cond' rfl (fun hC6 => ?_) (fun hC6 => ?_)
   ·
    have hpr : prior.length = row.length := hpl.resolve_left (fun h => by rw [h] at hC6; simp at hC6)
    refine C.region $ Kf rfl $ E.sub' rfl rfl (by omega) rfl $ E.get (k := i - 1) rfl rfl (hM.arg0 hq) (by omega) (by omega) U22 (by kernel_rfl) U5 rfl rfl rfl ?_
    rw [u8c]
    have h78 := bf_pos (l := prior) (i := i) (by omega) (by omega)
    rw [h78]
    have hbl := bf_le prior i
    refine E.conv rfl U5 U3 (IntWalk.i64_in _ (by omega)) rfl $ Kn rfl $ E.nil $ X.join0  (S1 rfl) rfl hM
   have hb0 : bf prior i = 0 := by
    rcases (show i = 0 ∨ prior.length = 0 by omega) with h | h
    · rw [h]; rfl
    rw [List.length_eq_zero_iff.1 h]; exact bf_nil i
   refine C.skip $ X.join0  (Sub.cons (look_val rfl (by rw [hb0]; rfl)) $ Sub.nil _) rfl hM
  rintro  w8 hM
  refine C.region $ Kf rfl $ Km rfl $ ?_
  have hal := at_le row i
  have hpl2 := pr_le m row prior i
  refine E.conv rfl U5 U3 (IntWalk.i64_in _ (by omega)) rfl $ Km rfl $ E.fld (o := 0) (sz := 0) rfl Tryz.underlying72 rfl rfl (by kernel_rfl) rfl $ E.load rfl Tryz.underlying70 rfl (hM.bcell 0 rfl rfl) rfl $ Kf rfl $ Km rfl $ E.callv rfl rfl rfl (pred_ret m (bf row i) (at_ prior i) (bf prior i) _ (bf_le _ _) (at_le _ _) (bf_le _ _)) ?_
  rintro _ w9 ⟨rfl, x9⟩
  have hM := hM.ext x9
  rw [show prd m (bf row i) (at_ prior i) (bf prior i) = pr m row prior i from rfl]
  refine E.mul rfl rfl (by omega) rfl $ E.add rfl rfl (by omega) rfl $ E.conv rfl U3 U5 (c := ((filk m row prior i).toNat : Int)) (wrapF hpl2) rfl $ E.idx1 (k := i) rfl rfl (hM.sl 1 rfl) rfl (by omega) U22 (by kernel_rfl) rfl $ E.storeL 1 (filk m row prior i) hM rfl rfl rfl (by kernel_rfl) rfl rfl (by omega) ?_
  intro w10 hM
  refine E.nil $ X.outN $ X.next $ C.region $ E.add rfl rfl (by omega) rfl $ Km rfl $ E.nil $ ?_
  rw [tab_set hi] at hM
  refine X.again1 (i + 1) (S1 rfl) rfl ⟨hM, by omega⟩ (by omega)
 obtain rfl : i = row.length := by omega
 rw [Nat.sub_self, List.replicate_zero, List.append_nil] at hM
 refine Kx $ Kb $ Km rfl $ Kn rfl $ Kc rfl $ C.ret $ ret2 rfl rfl rfl ?_
 exact ⟨_, rfl, hM.pick [1] (by decide)⟩
set_option maxHeartbeats 2000000 in
set_option maxRecDepth 8000 in
theorem apU_ret (m : Int) (p q : Value) (row prior : List UInt8) (w : World) (hp : RdL u8 w p row) (hq : RdL u8 w q prior) (hl : row.length ≤ 1000000) :
  Ret Tryz.prog 37 #[i64 m, i64 (1), p, q] w fun v w' => ∃ vo, v = .tuple #[vo, i64 (apE m row prior)] ∧ M w Nn w' [Rg.sl u8 5 vo (apO unf m row prior)] := by
 have hM := M.start w
 refine enter Tryz.func37 rfl (by kernel_rfl) Tryz.ntmps37 rfl $ Kb $ Kn rfl $ Kd rfl $ Km rfl $ E.call rfl rfl (filterOf_ret m _) ?_
 rintro _ w1 ⟨rfl, x1⟩
 have hM := hM.ext x1
 refine Km rfl $ E.ext rfl rfl rfl $ E.ext rfl rfl rfl $ E.allocM (z := .agg #[.nilFunc]) (cs := [.nilFunc]) hM (by kernel_rfl) rfl rfl ?_
 intro b10 w1 hM
 refine E.storeAM 0 hM rfl rfl rfl (by kernel_rfl) rfl (ones (fltI_one m) ones_nil) ?_
 intro w2 hM
 refine Kc rfl $ C.seq $ Kb $ Km rfl $ E.not rfl rfl $ Ka $ C.cond rfl (fun hC0 => ?_) (fun hC0 => ?_)
 ·
  have hm5 : ¬ (0 ≤ m ∧ m < 5) := by simp at hC0; omega
  have hE : apE m row prior = 37 := if_pos hm5
  refine Kb $ Kn rfl $ Kc rfl $ C.ret $ X.retT $ ret2 rfl rfl rfl ?_
  exact ⟨_, by rw [hE], by rw [apO, if_neg (by rw [hE]; decide)]; exact (hM.pick [] (by decide)).nil u8 5⟩
 have hm5 : 0 ≤ m ∧ m < 5 := by simp at hC0; omega
 rw [fltI, if_pos hm5] at hM
 refine Kk $ C.seq $ C.chainE [(1, _), (2, _), (3, _), (10, _)] rfl [(35, .bool (decide (prior ≠ [] ∧ prior.length ≠ row.length)))] ?_ ?_
 ·
  refine C.region $ Km rfl $ E.lenv rfl (Rd.shape (hM.arg0 hq)) U22 rfl $ Kp rfl $ Km rfl $ E.split 29 rfl (fun g29 => ?_) (fun g29 => ?_)
  ·
   try simp only [Ya, Yb, Yc, Yd, Ye, Yf] at g29
   have hpn : prior ≠ [] := fun h => by rw [h] at g29; simp at g29
   refine Ko rfl $ Km rfl $ Ko rfl $ E.lenv rfl (Rd.shape (hM.arg0 hq)) U22 rfl $ Ko rfl $ Km rfl $ Ko rfl $ E.lenv rfl (Rd.shape (hM.arg0 hp)) U22 rfl $ Ko rfl $ Kp rfl $ Kr rfl $ E.nil $ X.join0 (Sub.cons (look_eq rfl (congrArg Value.bool (by exact decide_eq_decide.2 ⟨fun h => ⟨hpn, by omega⟩, fun h => by have := h.2; omega⟩))) $ Sub.nil _) rfl rfl
  try simp only [Ya, Yb, Yc, Yd, Ye, Yf] at g29
  have hpn : prior = [] := List.length_eq_zero_iff.1 (by omega)
  refine Kq rfl $ Kq rfl $ Kq rfl $ Kq rfl $ Kq rfl $ Kr rfl $ E.nil $ X.join0 (Sub.cons (look_eq rfl (congrArg Value.bool (by exact (decide_eq_false (by simp [hpn])).symm))) $ Sub.nil _) rfl rfl
 refine C.cond' rfl (fun hC1 => ?_) (fun hC1 => ?_)
 ·
  have hE : apE m row prior = 7 := by rw [apE, if_neg (Decidable.not_not.2 hm5), if_pos hC1]
  refine Kb $ Kn rfl $ Kc rfl $ C.ret $ X.retT $ ret2 rfl rfl rfl ?_
  exact ⟨_, by rw [hE], by rw [apO, if_neg (by rw [hE]; decide)]; exact (hM.pick [] (by decide)).nil u8 5⟩
 have hE : apE m row prior = 0 := by rw [apE, if_neg (Decidable.not_not.2 hm5), if_neg hC1]
 have hpl : prior = [] ∨ prior.length = row.length := by
  by_cases h : prior = []
  · exact .inl h
  exact .inr (Decidable.not_not.1 fun h2 => hC1 ⟨h, h2⟩)
 obtain ⟨m, rfl⟩ : ∃ n : Nat, m = (n : Int) := ⟨m.toNat, by omega⟩
 rw [Int.toNat_natCast] at hM
 have hO : apO unf (m : Int) row prior = unf m row prior := by rw [apO, if_pos hE, Int.toNat_natCast]
 rw [hE, hO]
 refine Kk $ Kb $ Km rfl $ E.lenv rfl (Rd.shape (hM.arg0 hp)) U22 rfl $ E.makeM (by_ := 1) (enc := u8) 0 hM rfl U22 (by kernel_rfl) rfl (by omega) (by omega) rfl ?_
 intro v38 w3 hM
 refine Kd rfl $ Km rfl $ Kc rfl $ C.cut0 [(1, _), (2, _), (3, _), (10, _), (12, _)] rfl [(13, v38)] (fun w' => M w (Nn) w' [Rg.blk b10 72 [flt m], Rg.sl u8 5 v38 (List.replicate row.length 0)]) ?_ ?_
 ·
  refine Kb $ Km rfl $ Kp rfl $ Ka $ C.cond' rfl (fun hC2 => ?_) (fun hC2 => ?_)
  ·
   refine C.region $ Km rfl $ Kn rfl $ E.nil $ X.join0  (S1 rfl) rfl hM
  omega
 rintro  w4 hM
 refine C.seq $ Kb $ Km rfl $ E.lenv rfl (Rd.shape (hM.arg0 hp)) U22 rfl $ Km rfl $ Ka $ C.block $ C.loop1 [(1, _), (3, _), (10, _), (12, _), (13, _), (43, _), (44, _)] rfl (fun (i : Nat) => [(45, i64 i)]) (fun (i : Nat) w' => M w (Nn) w' [Rg.blk b10 72 [flt m], Rg.sl u8 5 v38 (unl m row prior i ++ List.replicate (row.length - i) 0 : List UInt8)] ∧ i ≤ row.length) (fun (i : Nat) => row.length - i) 0 ?_ ?_ ?_
 · exact S1 rfl
 · exact ⟨by (show M w Nn _ [_, Rg.sl u8 _ _ (unl m row prior 0 ++ List.replicate (row.length - 0) 0)]; (first | rw [Nat.sub_zero, tab_zero, List.nil_append] | rw [Nat.sub_zero, unl, List.nil_append])); exact hM, by omega⟩
 rintro i w5 ⟨hM, hI⟩
 refine Kb $ Kp rfl $ Ka $ C.seq $ C.cond' rfl (fun hC3 => ?_) (fun hC3 => ?_)
 ·
  have hi : i < row.length := by omega
  have hLl : (unl m row prior i ++ List.replicate (row.length - i) 0 : List UInt8).length = row.length := by rw [List.length_append, List.length_replicate, unl_len]; omega
  refine Kk $ C.seq $ C.block $ Kb $ Km rfl $ E.get (k := i) rfl rfl (hM.arg0 hp) rfl (by omega) U22 (by kernel_rfl) U5 rfl rfl rfl ?_
  rw [u8c, at_get hi]
  refine Kn rfl $ Kd rfl $ Kn rfl $ Kn rfl $ Kc rfl $ C.cut0 [(1, _), (3, _), (10, _), (12, _), (13, _), (14, _), (15, _), (17, _), (18, _), (43, _), (44, _), (45, _)] rfl [(16, i64 (bf (unl m row prior i) i : Int))] (fun w' => M w (Nn) w' [Rg.blk b10 72 [flt m], Rg.sl u8 5 v38 (unl m row prior i ++ List.replicate (row.length - i) 0 : List UInt8)]) ?_ ?_
  ·
   refine Kb $ Km rfl $ Kp rfl $ Ka $ C.cond' rfl (fun hC4 => ?_) (fun hC4 => ?_)
   ·
    refine C.region $ Kf rfl $ E.sub' rfl rfl (by omega) rfl $ E.get (k := i - 1) rfl rfl (hM.sl 1 rfl) (by omega) (by omega) U22 (by kernel_rfl) U5 rfl rfl rfl ?_
    rw [u8c, bf_unl (by omega)]
    have hbl := bf_le (unl m row prior i) i
    refine E.conv rfl U5 U3 (IntWalk.i64_in _ (by omega)) rfl $ Kn rfl $ E.nil $ X.join0  (S1 rfl) rfl hM
   refine C.skip $ X.join0  (Sub.cons (look_val rfl (by rw [show i = 0 by omega]; rfl)) $ Sub.nil _) rfl hM
  rintro  w6 hM
  refine C.cut0 [(1, _), (3, _), (10, _), (12, _), (13, _), (14, _), (15, _), (16, _), (18, _), (43, _), (44, _), (45, _)] rfl [(17, i64 (at_ prior i : Int))] (fun w' => M w (Nn) w' [Rg.blk b10 72 [flt m], Rg.sl u8 5 v38 (unl m row prior i ++ List.replicate (row.length - i) 0 : List UInt8)]) ?_ ?_
  ·
   refine Kb $ Km rfl $ E.lenv rfl (Rd.shape (hM.arg0 hq)) U22 rfl $ Kp rfl $ Ka $ C.cond' rfl (fun hC5 => ?_) (fun hC5 => ?_)
   ·
    have hpr : prior.length = row.length := hpl.resolve_left (fun h => by rw [h] at hC5; simp at hC5)
    refine C.region $ Kf rfl $ E.get (k := i) rfl rfl (hM.arg0 hq) rfl (by omega) U22 (by kernel_rfl) U5 rfl rfl rfl ?_
    rw [u8c, at_get (show i < prior.length by omega)]
    have hal := at_le prior i
    refine E.conv rfl U5 U3 (IntWalk.i64_in _ (by omega)) rfl $ Kn rfl $ E.nil $ X.join0  (S1 rfl) rfl hM
   obtain rfl : prior = [] := List.length_eq_zero_iff.1 (by omega)
   refine C.skip $ X.join0  (S1 rfl) rfl hM
  rintro  w7 hM
  refine C.cut0 [(1, _), (3, _), (10, _), (12, _), (13, _), (14, _), (15, _), (16, _), (17, _), (43, _), (44, _), (45, _)] rfl [(18, i64 (bf prior i : Int))] (fun w' => M w (Nn) w' [Rg.blk b10 72 [flt m], Rg.sl u8 5 v38 (unl m row prior i ++ List.replicate (row.length - i) 0 : List UInt8)]) ?_ ?_
  ·
   refine C.chainE [(1, _), (3, _), (10, _), (12, _), (13, _), (14, _), (15, _), (16, _), (17, _), (18, _), (43, _), (44, _), (45, _)] rfl [(72, .bool (decide (0 < i ∧ 0 < prior.length)))] ?_ ?_
   ·
    refine C.region $ Km rfl $ Kp rfl $ Km rfl $ E.split 68 rfl (fun g68 => ?_) (fun g68 => ?_)
    ·
     try simp only [Ya, Yb, Yc, Yd, Ye, Yf] at g68
     refine Ko rfl $ Km rfl $ Ko rfl $ E.lenv rfl (Rd.shape (hM.arg0 hq)) U22 rfl $ Ko rfl $ Kp rfl $ Kr rfl $ E.nil $ X.join0 (Sub.cons (by exact leaf_d (by omega)) $ Sub.nil _) rfl rfl
    try simp only [Ya, Yb, Yc, Yd, Ye, Yf] at g68
    refine Kq rfl $ Kq rfl $ Kq rfl $ Kr rfl $ E.nil $ X.join0 (Sub.cons (by exact leaf_f (by omega)) $ Sub.nil _) rfl rfl
   refine C.cond' rfl (fun hC6 => ?_) (fun hC6 => ?_)
   ·
    have hpr : prior.length = row.length := hpl.resolve_left (fun h => by rw [h] at hC6; simp at hC6)
    refine C.region $ Kf rfl $ E.sub' rfl rfl (by omega) rfl $ E.get (k := i - 1) rfl rfl (hM.arg0 hq) (by omega) (by omega) U22 (by kernel_rfl) U5 rfl rfl rfl ?_
    rw [u8c]
    have h78 := bf_pos (l := prior) (i := i) (by omega) (by omega)
    rw [h78]
    have hbl := bf_le prior i
    refine E.conv rfl U5 U3 (IntWalk.i64_in _ (by omega)) rfl $ Kn rfl $ E.nil $ X.join0  (S1 rfl) rfl hM
   have hb0 : bf prior i = 0 := by
    rcases (show i = 0 ∨ prior.length = 0 by omega) with h | h
    · rw [h]; rfl
    rw [List.length_eq_zero_iff.1 h]; exact bf_nil i
   refine C.skip $ X.join0  (Sub.cons (look_val rfl (by rw [hb0]; rfl)) $ Sub.nil _) rfl hM
  rintro  w8 hM
  refine C.region $ Kf rfl $ Km rfl $ ?_
  have hal := at_le row i
  have hpl2 := pr_le m (unl m row prior i) prior i
  refine E.conv rfl U5 U3 (IntWalk.i64_in _ (by omega)) rfl $ Km rfl $ E.fld (o := 0) (sz := 0) rfl Tryz.underlying72 rfl rfl (by kernel_rfl) rfl $ E.load rfl Tryz.underlying70 rfl (hM.bcell 0 rfl rfl) rfl $ Kf rfl $ Km rfl $ E.callv rfl rfl rfl (pred_ret m (bf (unl m row prior i) i) (at_ prior i) (bf prior i) _ (bf_le _ _) (at_le _ _) (bf_le _ _)) ?_
  rintro _ w9 ⟨rfl, x9⟩
  have hM := hM.ext x9
  rw [show prd m (bf (unl m row prior i) i) (at_ prior i) (bf prior i) = pr m (unl m row prior i) prior i from rfl]
  refine E.mul rfl rfl (by omega) rfl $ E.add rfl rfl (by omega) rfl $ E.conv rfl U3 U5 (c := ((unk m row prior i).toNat : Int)) wrapU rfl $ E.idx1 (k := i) rfl rfl (hM.sl 1 rfl) rfl (by omega) U22 (by kernel_rfl) rfl $ E.storeL 1 (unk m row prior i) hM rfl rfl rfl (by kernel_rfl) rfl rfl (by omega) ?_
  intro w10 hM
  refine E.nil $ X.outN $ X.next $ C.region $ E.add rfl rfl (by omega) rfl $ Km rfl $ E.nil $ ?_
  rw [unl_set hi] at hM
  refine X.again1 (i + 1) (S1 rfl) rfl ⟨hM, by omega⟩ (by omega)
 obtain rfl : i = row.length := by omega
 rw [Nat.sub_self, List.replicate_zero, List.append_nil] at hM
 refine Kx $ Kb $ Km rfl $ Kn rfl $ Kc rfl $ C.ret $ ret2 rfl rfl rfl ?_
 exact ⟨_, rfl, hM.pick [1] (by decide)⟩
theorem Filter_ret (m : Int) (p q : Value) (row prior : List UInt8) (w : World) (hp : RdL u8 w p row) (hq : RdL u8 w q prior) (hl : row.length ≤ 1000000) :
  Ret Tryz.prog 11 #[i64 m, p, q] w fun v w' => ∃ vo, v = .tuple #[vo, i64 (apE m row prior)] ∧ M w Nn w' [Rg.sl u8 5 vo (apO fil m row prior)] := by
 have hM := M.start w
 refine enter Tryz.func11 rfl (by kernel_rfl) Tryz.ntmps11 rfl $ Kb $ Kn rfl $ Kd rfl $ Kf rfl $ Km rfl $ E.call rfl rfl (apF_ret m p q row prior _ (hM.arg0 hp) (hM.arg0 hq) hl) ?_
 rintro _ w1 ⟨vo, rfl, m1⟩
 have hM := hM.call m1
 refine E.ext rfl rfl rfl $ E.ext rfl rfl rfl $ Kn rfl $ Kc rfl $ C.ret $ ret2 rfl rfl rfl ?_
 exact ⟨_, rfl, hM⟩
theorem Unfilter_ret (m : Int) (p q : Value) (row prior : List UInt8) (w : World) (hp : RdL u8 w p row) (hq : RdL u8 w q prior) (hl : row.length ≤ 1000000) :
  Ret Tryz.prog 12 #[i64 m, p, q] w fun v w' => ∃ vo, v = .tuple #[vo, i64 (apE m row prior)] ∧ M w Nn w' [Rg.sl u8 5 vo (apO unf m row prior)] := by
 have hM := M.start w
 refine enter Tryz.func12 rfl (by kernel_rfl) Tryz.ntmps12 rfl $ Kb $ Kn rfl $ Kd rfl $ Kf rfl $ Km rfl $ E.call rfl rfl (apU_ret m p q row prior _ (hM.arg0 hp) (hM.arg0 hq) hl) ?_
 rintro _ w1 ⟨vo, rfl, m1⟩
 have hM := hM.call m1
 refine E.ext rfl rfl rfl $ E.ext rfl rfl rfl $ Kn rfl $ Kc rfl $ C.ret $ ret2 rfl rfl rfl ?_
 exact ⟨_, rfl, hM⟩
end Go.Proofs.YtajklleiifhipaaGreatDoor
