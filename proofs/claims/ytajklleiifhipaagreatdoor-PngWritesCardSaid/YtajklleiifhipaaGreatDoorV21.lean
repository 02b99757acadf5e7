/- Texts of the claim, laid together: Pg5, Arg35, Dg29. -/
import Derived.Test.YtajklleiifhipaaGreatDoorV0
import Derived.Test.YtajklleiifhipaaGreatDoorV5
import Derived.Test.YtajklleiifhipaaGreatDoorV11
import Derived.Test.YtajklleiifhipaaGreatDoorV12
import Derived.Test.YtajklleiifhipaaGreatDoorV13
import Derived.Test.YtajklleiifhipaaGreatDoorV18
import Derived.Test.YtajklleiifhipaaGreatDoorV19
import Derived.Test.YtajklleiifhipaaGreatDoorV20
set_option linter.unusedSimpArgs false
set_option linter.unusedVariables false
namespace Go.Proofs.YtajklleiifhipaaGreatDoor
open Go.RowKit Sym
open Pg
theorem Sym.M.offSl {α : Type} {enc : α → Value} {e : TypeId} {w0 w : World} {S : Nat → Prop} {rs : List Rg} {v : Value} {l : List α} {q : Rg} (h : M w0 S w rs) (i j : Nat) (hne : i ≠ j) (hi : rs[i]? = some (Rg.sl enc e v l)) (hj : rs[j]? = some q) : Off (fpU [q]) v l := by
 have ho : OwnL enc w 0 e v l := h.own i hi
 rcases ho.2 with ⟨_, h0⟩ | ⟨g, cap, cur, rfl, _⟩
 · exact .inl (List.length_eq_zero_iff.1 h0)
 exact .inr fun hf => h.sep.apart i j _ q hi hj hne g rfl (fp1.1 hf)
theorem mul_small {a b : Int} (h1 : 1 ≤ a) (h2 : a ≤ 4096) (h3 : 1 ≤ b) (h4 : b ≤ 4096) : 0 ≤ a * b ∧ a * b ≤ 16777216 :=
 ⟨Int.mul_nonneg (by omega) (by omega), by have := Int.mul_le_mul h2 h4 (by omega) (by omega); omega⟩
abbrev imv (W H : Int) (vp : Value) : Value := .agg #[i64 W, i64 H, vp]
namespace Pg
theorem pkx_zero (row : List UInt8) : pkx row 0 = List.replicate ((row.length + 7) / 8) 0 := by
 refine List.ext_getElem? fun j => ?_
 unfold pkx
 by_cases h : j < (row.length + 7) / 8
 · rw [tab_get h, List.getElem?_replicate, if_pos h, show min 8 (0 - 8 * j) = 0 by omega]; rfl
 rw [List.getElem?_eq_none (by rw [tab_len]; omega), List.getElem?_eq_none (by rw [List.length_replicate]; omega)]
theorem pkx_get {row : List UInt8} {x i : Nat} (h : i < (row.length + 7) / 8) : (pkx row x)[i]'(by rw [pkx_len]; exact h) = UInt8.ofNat (pb row i (min 8 (x - 8 * i))) := by
 have := tab_get (f := fun i => UInt8.ofNat (pb row i (min 8 (x - 8 * i)))) h
 unfold pkx
 rw [List.getElem?_eq_getElem (by rw [tab_len]; exact h)] at this
 exact Option.some.inj this
theorem pkx_step {row : List UInt8} {x : Nat} (h : x < row.length) : (pkx row x).set (x / 8) (UInt8.ofNat (pb row (x / 8) (x % 8 + 1))) = pkx row (x + 1) := by
  refine List.ext_getElem? fun j => ?_
  by_cases hj : j < (row.length + 7) / 8
  · by_cases e : x / 8 = j
    · subst e
      rw [List.getElem?_set_self (by rw [pkx_len]; exact hj)]
      unfold pkx
      rw [tab_get hj, show min 8 (x + 1 - 8 * (x / 8)) = x % 8 + 1 by omega]
    rw [List.getElem?_set_ne e]
    unfold pkx
    rw [tab_get hj, tab_get hj, show min 8 (x + 1 - 8 * j) = min 8 (x - 8 * j) by omega]
  rw [List.getElem?_eq_none (by rw [List.length_set, pkx_len]; omega), List.getElem?_eq_none (by rw [pkx_len]; omega)]
theorem pkx_skip {row : List UInt8} {x : Nat} (h : x < row.length) (h0 : at_ row x = 0) : pkx row (x + 1) = pkx row x := by
  unfold pkx
  refine tab_congr fun i hi => ?_
  by_cases e : x / 8 = i
  · subst e
    rw [show min 8 (x + 1 - 8 * (x / 8)) = min 8 (x - 8 * (x / 8)) + 1 by omega, pb, show 8 * (x / 8) + min 8 (x - 8 * (x / 8)) = x by omega, h0]; rfl
  rw [show min 8 (x + 1 - 8 * i) = min 8 (x - 8 * i) by omega]
theorem pb_or {row : List UInt8} {i k : Nat} (hk : k < 8) (h : at_ row (8 * i + k) ≠ 0) : bits .or .u8 (((UInt8.ofNat (pb row i k)).toNat : Nat) : Int) ((128 / 2 ^ k : Nat) : Int) = (((UInt8.ofNat (pb row i (k + 1))).toNat : Nat) : Int) := by
 have h1 := pb_lt row i k (by omega)
 have h2 := pb_lt row i (k + 1) (by omega)
 have e1 : (UInt8.ofNat (pb row i k)).toNat = pb row i k := by simp; omega
 have e2 : (UInt8.ofNat (pb row i (k + 1))).toNat = pb row i (k + 1) := by simp; omega
 have e3 : 128 / 2 ^ k = 2 ^ (7 - k) := by rw [show (128 : Nat) = 2 ^ 7 from rfl, Nat.pow_div (by omega) (by decide)]
 have e4 : 2 ^ (7 - k) < 2 ^ (8 - k) := Nat.pow_lt_pow_right (by decide) (by omega)
 have e5 : 128 / 2 ^ k < 256 := Nat.lt_of_le_of_lt (Nat.div_le_self _ _) (by decide)
 rw [e1, e2, u8_or_nat _ _ h1 e5, pb, if_pos h, e3, pb_vb row i k (by omega), ← Nat.shiftLeft_eq, ← Nat.shiftLeft_add_eq_or_of_lt e4]
theorem shr8 (x : Nat) : (128 : Int) / 2 ^ min ((x : Int) % 8).toNat IntKind.u8.bits = ((128 / 2 ^ (x % 8) : Nat) : Int) := by
 have h : ∀ s, s < 8 → (128 : Int) / 2 ^ min s IntKind.u8.bits = ((128 / 2 ^ s : Nat) : Int) := by decide
 rw [show ((x : Int) % 8).toNat = x % 8 by omega, h _ (Nat.mod_lt _ (by decide))]
theorem wgt_succ {l : List UInt8} {k : Nat} (h : k < l.length) : wgt (l.take (k + 1)) = wgt (l.take k) + min (l[k]).toNat (256 - (l[k]).toNat) := by
 unfold wgt
 rw [← List.take_append_getElem h, List.map_append, List.sum_append]; simp
def bK (row prior : List UInt8) : Nat → Nat
 | 0 => 0
 | k + 1 => bsk row prior k
theorem bK_s (row prior : List UInt8) (k : Nat) : bK row prior (k + 1) = bsk row prior k := rfl
def lK (row prior : List UInt8) : Nat → Int
 | 0 => -1
 | k + 1 => (wgt (fil (bsk row prior k) row prior) : Int)
theorem lK_s (row prior : List UInt8) (k : Nat) : lK row prior (k + 1) = (wgt (fil (bsk row prior k) row prior) : Int) := rfl
def cK (row prior : List UInt8) : Nat → List UInt8
 | 0 => []
 | k + 1 => fil (bsk row prior k) row prior
theorem cK_s (row prior : List UInt8) (k : Nat) : cK row prior (k + 1) = fil (bsk row prior k) row prior := rfl
theorem bK_t {row prior : List UInt8} {k : Nat} (h : lK row prior k < 0 ∨ (wgt (fil k row prior) : Int) < lK row prior k) : bsk row prior k = k := by
 cases k with
 | zero => rfl
 | succ k =>
  have : wgt (fil (k + 1) row prior) < wgt (fil (bsk row prior k) row prior) := by rw [lK_s] at h; omega
  rw [bsk, if_pos this]
theorem bK_f {row prior : List UInt8} {k : Nat} (h : ¬ (lK row prior k < 0 ∨ (wgt (fil k row prior) : Int) < lK row prior k)) : bK row prior (k + 1) = bK row prior k ∧ lK row prior (k + 1) = lK row prior k ∧ cK row prior (k + 1) = cK row prior k := by
 cases k with
 | zero => exact (h (.inl (show (-1 : Int) < 0 by decide))).elim
 | succ k =>
  have : ¬ wgt (fil (k + 1) row prior) < wgt (fil (bsk row prior k) row prior) := by rw [lK_s] at h; omega
  have e : bsk row prior (k + 1) = bsk row prior k := by rw [bsk, if_neg this]
  exact ⟨by rw [bK_s, bK_s, e], by rw [lK_s, lK_s, e], by rw [cK_s, cK_s, e]⟩
def vlk (row : List UInt8) (d x : Nat) : UInt8 := UInt8.ofNat (255 * (at_ row (x * d / 8) / 2 ^ (8 - d - x * d % 8) % 2 ^ d) / (2 ^ d - 1))
theorem shr_i64 {v k : Nat} (hk : k ≤ 63) : (v : Int) / 2 ^ min (k : Int).toNat IntKind.i64.bits = ((v / 2 ^ k : Nat) : Int) := by
 rw [Int.toNat_natCast, show min k IntKind.i64.bits = k from Nat.min_eq_left (by simp [IntKind.bits]; omega)]; simp
theorem and_mask {v d : Nat} (hv : v ≤ 255) (hd : d ≤ 8) : bits .and .i64 (v : Int) ((2 ^ d - 1 : Nat) : Int) = ((v % 2 ^ d : Nat) : Int) := by
 have : 2 ^ d ≤ 2 ^ 8 := Nat.pow_le_pow_right (by decide) hd
 rw [i64_and_nat _ _ (by omega) (by omega), Nat.and_two_pow_sub_one_eq_mod]
end Pg
theorem possible_ret (W H : Int) (w : World) :
  Ret Tryz.prog 41 #[i64 W, i64 H] w fun v w' => v = .bool (decide (1 ≤ W ∧ W ≤ 4096 ∧ 1 ≤ H ∧ H ≤ 4096 ∧ W * H ≤ 4194304)) ∧ Ext w w' := by
 have hM := M.start w
 refine enter Tryz.func41 rfl (by kernel_rfl) Tryz.ntmps41 rfl $ Kb $ Kc rfl $ C.chainE [] rfl [(4, .bool (decide (1 ≤ W ∧ W ≤ 4096 ∧ 1 ≤ H ∧ H ≤ 4096 ∧ W * H ≤ 4194304)))] ?_ ?_
 ·
  refine C.region $ Km rfl $ Kp rfl $ Km rfl $ E.split 7 rfl (fun g7 => ?_) (fun g7 => ?_)
  ·
   try simp only [Ya, Yb, Yc, Yd, Ye, Yf] at g7
   refine Ko rfl $ Km rfl $ Ko rfl $ Kp rfl $ Kr rfl $ Km rfl $ E.split 11 rfl (fun g11 => ?_) (fun g11 => ?_)
   ·
    try simp only [Ya, Yb, Yc, Yd, Ye, Yf] at g11
    refine Ko rfl $ Km rfl $ Ko rfl $ Kp rfl $ Kr rfl $ Km rfl $ E.split 15 rfl (fun g15 => ?_) (fun g15 => ?_)
    ·
     try simp only [Ya, Yb, Yc, Yd, Ye, Yf] at g15
     refine Ko rfl $ Km rfl $ Ko rfl $ Kp rfl $ Kr rfl $ Km rfl $ E.split 19 rfl (fun g19 => ?_) (fun g19 => ?_)
     ·
      try simp only [Ya, Yb, Yc, Yd, Ye, Yf] at g19
      have hms := mul_small (a := W) (b := H) (by omega) (by omega) (by omega) (by omega)
      refine Ko rfl $ Km rfl $ Ko rfl $ Km rfl $ Ko rfl $ E.mul rfl rfl (by omega) rfl $ Ko rfl $ Kp rfl $ Kr rfl $ Kn rfl $ E.nil $ X.join0 (Sub.cons (look_eq rfl (congrArg Value.bool (by exact decide_eq_decide.2 ⟨fun h => by omega, fun h => by omega⟩))) $ Sub.nil _) rfl rfl
     try simp only [Ya, Yb, Yc, Yd, Ye, Yf] at g19
     refine Kq rfl $ Kq rfl $ Kq rfl $ Kq rfl $ Kr rfl $ Kn rfl $ E.nil $ X.join0 (Sub.cons (look_eq rfl (congrArg Value.bool (by exact (decide_eq_false (p := 1 ≤ W ∧ W ≤ 4096 ∧ 1 ≤ H ∧ H ≤ 4096 ∧ W * H ≤ 4194304) (by omega)).symm))) $ Sub.nil _) rfl rfl
    try simp only [Ya, Yb, Yc, Yd, Ye, Yf] at g15
    refine Kq rfl $ Kq rfl $ Kr rfl $ Km rfl $ Kq rfl $ Kq rfl $ Kq rfl $ Kq rfl $ Kr rfl $ Kn rfl $ E.nil $ X.join0 (Sub.cons (look_eq rfl (congrArg Value.bool (by exact (decide_eq_false (p := 1 ≤ W ∧ W ≤ 4096 ∧ 1 ≤ H ∧ H ≤ 4096 ∧ W * H ≤ 4194304) (by omega)).symm))) $ Sub.nil _) rfl rfl
   try simp only [Ya, Yb, Yc, Yd, Ye, Yf] at g11
   refine Kq rfl $ Kq rfl $ Kr rfl $ Km rfl $ Kq rfl $ Kq rfl $ Kr rfl $ Km rfl $ Kq rfl $ Kq rfl $ Kq rfl $ Kq rfl $ Kr rfl $ Kn rfl $ E.nil $ X.join0 (Sub.cons (look_eq rfl (congrArg Value.bool (by exact (decide_eq_false (p := 1 ≤ W ∧ W ≤ 4096 ∧ 1 ≤ H ∧ H ≤ 4096 ∧ W * H ≤ 4194304) (by omega)).symm))) $ Sub.nil _) rfl rfl
  try simp only [Ya, Yb, Yc, Yd, Ye, Yf] at g7
  refine Kq rfl $ Kq rfl $ Kr rfl $ Km rfl $ Kq rfl $ Kq rfl $ Kr rfl $ Km rfl $ Kq rfl $ Kq rfl $ Kr rfl $ Km rfl $ Kq rfl $ Kq rfl $ Kq rfl $ Kq rfl $ Kr rfl $ Kn rfl $ E.nil $ X.join0 (Sub.cons (look_eq rfl (congrArg Value.bool (by exact (decide_eq_false (p := 1 ≤ W ∧ W ≤ 4096 ∧ 1 ≤ H ∧ H ≤ 4096 ∧ W * H ≤ 4194304) (by omega)).symm))) $ Sub.nil _) rfl rfl
 refine C.ret $ ret1 rfl rfl ?_
 exact ⟨rfl, hM.toExt⟩
theorem CheckImage_ret (W H : Int) (vp : Value) (pix : List UInt8) (w : World) (hp : RdL u8 w vp pix) :
  Ret Tryz.prog 15 #[imv W H vp] w fun v w' => v = i64 (if vld W H pix.length then 0 else 1) ∧ Ext w w' := by
 have hM := M.start w
 refine enter Tryz.func15 rfl (by kernel_rfl) Tryz.ntmps15 rfl $ Kb $ E.boxM hM rfl rfl rfl ?_
 intro b1 w0 hM
 refine Kc rfl $ C.seq $ C.cut0 [] rfl [(19, .bool (decide (¬ vld W H pix.length)))] (fun w' => M w (Nn) w' []) ?_ ?_
 ·
  refine C.region $ E.fld (o := 0) (sz := 0) rfl U24 rfl rfl (by kernel_rfl) rfl $ E.load rfl U3 rfl (hM.bcell 0 rfl rfl) rfl $ E.fld (o := 1) (sz := 0) rfl U24 rfl rfl (by kernel_rfl) rfl $ E.load rfl U3 rfl (hM.bcell 0 rfl rfl) rfl $ E.call rfl rfl (possible_ret W H _) ?_
  rintro _ w1 ⟨rfl, x1⟩
  have hM := hM.ext x1
  refine E.not rfl rfl $ Km rfl $ E.split 9 rfl (fun g9 => ?_) (fun g9 => ?_)
  ·
   try simp only [Ya, Yb, Yc, Yd, Ye, Yf] at g9
   have g9' : ¬ (1 ≤ W ∧ W ≤ 4096 ∧ 1 ≤ H ∧ H ≤ 4096 ∧ W * H ≤ 4194304) := by simpa using g9
   refine Kq rfl $ Kq rfl $ Kq rfl $ Kq rfl $ Kq rfl $ Kq rfl $ Kq rfl $ Kq rfl $ Kq rfl $ Kr rfl $ E.nil $ X.join0  (Sub.cons (look_eq rfl (congrArg Value.bool (decide_eq_true (p := ¬ vld W H pix.length) (fun h => g9' ⟨h.1, h.2.1, h.2.2.1, h.2.2.2.1, h.2.2.2.2.1⟩)).symm)) $ Sub.nil _) rfl (hM.pick [] (by decide))
  try simp only [Ya, Yb, Yc, Yd, Ye, Yf] at g9
  have g9' : 1 ≤ W ∧ W ≤ 4096 ∧ 1 ≤ H ∧ H ≤ 4096 ∧ W * H ≤ 4194304 := by simpa using g9
  have hms := mul_small (a := W) (b := H) (by omega) (by omega) (by omega) (by omega)
  refine Ko rfl $ E.fld (o := 2) (sz := 0) rfl U24 rfl rfl (by kernel_rfl) rfl $ Ko rfl $ E.load rfl U22 rfl (hM.bcell 0 rfl rfl) rfl $ Ko rfl $ E.lenv rfl (Rd.shape (hM.arg0 hp)) U22 rfl $ Ko rfl $ E.fld (o := 0) (sz := 0) rfl U24 rfl rfl (by kernel_rfl) rfl $ Ko rfl $ E.load rfl U3 rfl (hM.bcell 0 rfl rfl) rfl $ Ko rfl $ E.fld (o := 1) (sz := 0) rfl U24 rfl rfl (by kernel_rfl) rfl $ Ko rfl $ E.load rfl U3 rfl (hM.bcell 0 rfl rfl) rfl $ Ko rfl $ E.mul rfl rfl (by omega) rfl $ Ko rfl $ Kp rfl $ Kr rfl $ E.nil $ X.join0  (Sub.cons (look_eq rfl (congrArg Value.bool (decide_eq_decide.2 ⟨fun h k => h k.2.2.2.2.2, fun h k => h ⟨g9'.1, g9'.2.1, g9'.2.2.1, g9'.2.2.2.1, g9'.2.2.2.2, k⟩⟩))) $ Sub.nil _) rfl (hM.pick [] (by decide))
 rintro  w2 hM
 refine C.cond' rfl (fun hC0 => ?_) (fun hC0 => ?_)
 ·
  refine Kb $ Kc rfl $ C.ret $ X.retT $ ret1 rfl rfl ?_
  exact ⟨by rw [if_neg hC0], hM.toExt⟩
 refine Kk $ Kb $ Kc rfl $ C.ret $ ret1 rfl rfl ?_
 exact ⟨by rw [if_pos (Decidable.not_not.1 hC0)], hM.toExt⟩
theorem Clone8_ret (p : Value) (l : List UInt8) (w : World) (hp : RdL u8 w p l) (h1 : 1 ≤ l.length) (hl : l.length ≤ 1000000000) :
  Ret Tryz.prog 42 #[p] w fun v w' => M w Nn w' [Rg.sl u8 5 v l] := by
 have hM := M.start w
 refine enter Tryz.func42 rfl (by kernel_rfl) Tryz.ntmps42 rfl $ Kb $ Kc rfl $ C.seq $ Kb $ Km rfl $ E.eqnilS rfl (by obtain ⟨a, cap, h⟩ := Rd.shape hp; exact ⟨_, _, _, h⟩) rfl U22 rfl $ Ka $ C.cond' rfl (fun hC0 => ?_) (fun hC0 => ?_)
 ·
  obtain ⟨a, cap, rfl, hc, hm, hl2, hsome, hat⟩ := hp
  cases a with
  | none => obtain ⟨b, off, h⟩ := hsome (by rw [List.length_map]; omega); cases h
  | some a => cases hC0
 refine Kk $ Kb $ E.mkM (enc := u8) (e := 5) [] hM rfl (fun _ => by kernel_rfl) rfl rfl rfl ?_
 intro v5 w0 hM
 refine Km rfl $ E.appendM 0 hM rfl rfl rfl U22 elem_Tuint8 (hM.arg0 hp) (fun _ => rfl) (by simp; omega) (by simp; omega) rfl ?_
 intro v7 w1 hM
 refine Kc rfl $ C.ret $ ret1 rfl rfl ?_
 exact hM
set_option maxHeartbeats 1000000 in
theorem pack_ret (p : Value) (row : List UInt8) (d : Nat) (w : World) (hp : RdL u8 w p row) (h1 : 1 ≤ row.length) (hl : row.length ≤ 1000000) :
  Ret Tryz.prog 16 #[p, i64 d] w fun v w' => M w Nn w' [Rg.sl u8 5 v (pck row d)] := by
 have hM := M.start w
 refine enter Tryz.func16 rfl (by kernel_rfl) Tryz.ntmps16 rfl $ Kb $ Kc rfl $ C.seq $ Kb $ Km rfl $ Kp rfl $ Ka $ C.cond' rfl (fun hC0 => ?_) (fun hC0 => ?_)
 ·
  refine Kb $ Km rfl $ E.call rfl rfl (Clone8_ret p row _ (hM.arg0 hp) h1 (by omega)) ?_
  rintro v11 w0 m
  have hM := hM.call m
  refine Kc rfl $ C.ret $ X.retT $ ret1 rfl rfl ?_
  exact by rw [pck, if_pos (by omega)]; exact hM
 refine Kk $ Kb $ Km rfl $ E.lenv rfl (Rd.shape (hM.arg0 hp)) U22 rfl $ E.addN (a := row.length) (b := 7) rfl rfl (by omega) rfl $ E.quo (c := ((row.length + 7) / 8 : Nat)) rfl rfl (by omega) ((IntWalk.i64_quo _ _ (by omega)).trans (by omega)) rfl $ E.makeM (by_ := 1) (enc := u8) 0 hM rfl U22 (by kernel_rfl) rfl (by omega) (by omega) rfl ?_
 intro v16 w1 hM
 rw [← pkx_zero] at hM
 refine Kc rfl $ C.seq $ Kb $ Km rfl $ E.lenv rfl (Rd.shape (hM.arg0 hp)) U22 rfl $ Km rfl $ Ka $ C.block $ C.loop1 [(5, _), (17, _), (18, _)] rfl (fun (x : Nat) => [(19, i64 x)]) (fun (x : Nat) w' => M w (Nn) w' [Rg.sl u8 5 v16 (pkx row x)] ∧ x ≤ row.length) (fun (x : Nat) => row.length - x) 0 ?_ ?_ ?_
 · exact S1 rfl
 · exact ⟨hM, Nat.zero_le _⟩
 rintro x w2 ⟨hM, hx⟩
 refine Kb $ Kp rfl $ Ka $ C.seq $ C.cond' rfl (fun hC1 => ?_) (fun hC1 => ?_)
 ·
  have hx' : x < row.length := by omega
  have h8 : x / 8 < (row.length + 7) / 8 := by omega
  have hpl := pkx_len row x
  have hm8 : min 8 (x - 8 * (x / 8)) = x % 8 := by omega
  refine Kk $ C.cut0 [(5, _), (17, _), (18, _), (19, _)] rfl [] (fun w' => M w (Nn) w' [Rg.sl u8 5 v16 (pkx row (x + 1))]) ?_ ?_
  ·
   refine C.block $ Kb $ Km rfl $ E.get (k := x) rfl rfl (hM.arg0 hp) rfl (by omega) U22 (by kernel_rfl) U5 rfl rfl rfl ?_
   rw [u8c, at_get hx']
   refine Kn rfl $ Kd rfl $ Km rfl $ Kp rfl $ Ka $ C.cond' rfl (fun hC2 => ?_) (fun hC2 => ?_)
   ·
    have hax : at_ row (8 * (x / 8) + x % 8) ≠ 0 := by rw [show 8 * (x / 8) + x % 8 = x by omega]; omega
    refine C.drawnT 10 (by kernel_rfl) (by kernel_rfl) fun wh3 hwh3 => ?_
    have hM := hM.ext hwh3
    refine S.mv rfl rfl $ S.mv rfl rfl $ S.quo rfl rfl (by omega) (IntWalk.i64_quo _ _ (by omega)) rfl $ S.idx1 (k := x / 8) rfl rfl (hM.sl 0 rfl) (by omega) (by omega) U22 (by kernel_rfl) rfl $ S.load rfl U5 rfl ((hM.sl 0 rfl).cellA rfl (by omega)) rfl ?_
    rw [pkx_get h8, hm8, u8c]
    refine S.mv rfl rfl $ S.rem rfl rfl (by omega) (IntWalk.rem_in _ _ (by omega)) rfl $ S.shr rfl rfl (by omega) (shr8 x) rfl $ S.binw rfl rfl rfl (congrArg _ (pb_or (Nat.mod_lt _ (by decide)) hax)) rfl $ S.idx1 (k := x / 8) rfl rfl (hM.sl 0 rfl) (by omega) (by omega) U22 (by kernel_rfl) rfl $ S.nil $ E.storeL 0 (UInt8.ofNat (pb row (x / 8) (x % 8 + 1))) hM rfl rfl rfl (by kernel_rfl) rfl rfl (by omega) ?_
    intro w4 hM
    refine E.nil $ X.outN $ ?_
    rw [pkx_step hx'] at hM
    refine X.join0  (Sub.nil _) rfl hM
   refine C.skip $ X.outN $ X.join0  (Sub.nil _) rfl (by rw [pkx_skip hx' (by omega)]; exact hM)
  rintro  w5 hM
  refine C.region $ E.add rfl rfl (by omega) rfl $ Km rfl $ E.nil $ X.again1 (x + 1) (S1 rfl) rfl ⟨hM, by omega⟩ (by omega)
 obtain rfl : x = row.length := by omega
 refine Kx $ Kb $ Km rfl $ Kc rfl $ C.ret $ ret1 rfl rfl ?_
 exact by rw [pck, if_neg (by omega)]; exact hM
theorem weight_ret (p : Value) (l : List UInt8) (w : World) (hp : RdL u8 w p l) (hl : l.length ≤ 1000000) :
  Ret Tryz.prog 43 #[p] w fun v w' => v = i64 (wgt l : Int) ∧ Ext w w' := by
 have hM := M.start w
 refine enter Tryz.func43 rfl (by kernel_rfl) Tryz.ntmps43 rfl $ Kb $ Kd rfl $ Kc rfl $ C.seq $ Kb $ Km rfl $ E.lenv rfl (Rd.shape (hM.arg0 hp)) U22 rfl $ Km rfl $ Ka $ C.block $ C.loop1 [(6, _), (7, _)] rfl (fun (k : Nat) => [(3, i64 (wgt (l.take k) : Int)), (8, i64 k)]) (fun (k : Nat) w' => M w (Nn) w' [] ∧ k ≤ l.length) (fun (k : Nat) => l.length - k) 0 ?_ ?_ ?_
 · exact Sub.cons rfl $ S1 rfl
 · exact ⟨hM, Nat.zero_le _⟩
 rintro k w0 ⟨hM, hk⟩
 refine Kb $ Kp rfl $ Ka $ C.seq $ C.cond' rfl (fun hC0 => ?_) (fun hC0 => ?_)
 ·
  have hk' : k < l.length := by omega
  have hwl := wgt_le (l.take k)
  rw [List.length_take] at hwl
  have hws := wgt_succ hk'
  have hlt := UInt8.toNat_lt l[k]
  refine Kk $ C.seq $ C.block $ Kb $ E.get (k := k) rfl rfl (hM.arg0 hp) rfl (by omega) U22 (by kernel_rfl) U5 rfl rfl rfl ?_
  rw [u8c]
  refine Kc rfl $ C.region $ Kf rfl $ E.conv rfl U5 U3 (IntWalk.i64_in _ (by omega)) rfl $ Km rfl $ E.conv rfl U5 U3 (IntWalk.i64_in _ (by omega)) rfl $ E.sub' rfl rfl (by omega) rfl $ E.min2 rfl rfl rfl $ E.add rfl rfl (by omega) rfl $ Kn rfl $ E.nil $ X.outN $ X.next $ C.region $ E.add rfl rfl (by omega) rfl $ Km rfl $ E.nil $ X.again1 (k + 1) (Sub.cons (look_val rfl (by rw [hws]; omega)) $ S1 rfl) rfl ⟨hM, by omega⟩ (by omega)
 obtain rfl : k = l.length := by omega
 rw [List.take_length]
 refine Kx $ Kb $ Km rfl $ Kc rfl $ C.ret $ ret1 rfl rfl ?_
 exact ⟨rfl, hM.toExt⟩
set_option maxHeartbeats 1000000 in
theorem appendBest_ret (p q r : Value) (data row prior : List UInt8) (w : World) (hs : Sep w [Rg.sl u8 5 p data]) (hq : RdL u8 w q row) (hr : RdL u8 w r prior) (oq : Off (fpU [Rg.sl u8 5 p data]) q row) (or_ : Off (fpU [Rg.sl u8 5 p data]) r prior) (hpl : prior = [] ∨ prior.length = row.length) (hl : row.length ≤ 1000000) (hdl : data.length ≤ 100000000) :
  Ret Tryz.prog 17 #[p, q, r] w fun v w' => M w (fpU [Rg.sl u8 5 p data]) w' [Rg.sl u8 5 v (data ++ bst row prior)] := by
 have hM := M.startS hs
 refine enter Tryz.func17 rfl (by kernel_rfl) Tryz.ntmps17 rfl $ Kb $ Kd rfl $ Kn rfl $ Kd rfl $ Kc rfl $ C.seq $ Kb $ Km rfl $ Ka $ C.block $ ?_
 have hM := hM.nil u8 5
 try dsimp only [List.nil_append, List.cons_append] at hM
 refine C.loop2 [(0, _), (1, _), (2, _)] rfl (fun (k : Nat) (vc : Value) => [(7, i64 (bK row prior k : Int)), (8, i64 (lK row prior k)), (9, vc), (14, i64 k)]) (fun (k : Nat) (vc : Value) w' => M w (fpU [Rg.sl u8 5 p data]) w' [Rg.sl u8 5 p data, Rg.sl u8 5 vc (cK row prior k)] ∧ k ≤ 5) (fun (k : Nat) (vc : Value) => 5 - k) 0 nilS ?_ ?_ ?_
 · exact Sub.cons rfl $ Sub.cons rfl $ Sub.cons rfl $ S1 rfl
 · exact ⟨hM, by omega⟩
 rintro k vc w0 ⟨hM, hk⟩
 refine Kb $ Kp rfl $ Ka $ C.seq $ C.cond' rfl (fun hC0 => ?_) (fun hC0 => ?_)
 ·
  have hk' : k < 5 := by omega
  have hE : apE (k : Int) row prior = 0 := by
   rw [apE, if_neg (by omega), if_neg (fun h => h.2 (hpl.resolve_left h.1))]
  have hO : apO fil (k : Int) row prior = fil k row prior := by rw [apO, if_pos hE, Int.toNat_natCast]
  have hfl := fil_len k row prior
  refine Kk $ C.cut1 [(0, _), (1, _), (2, _), (14, _)] rfl (fun (vc2 : Value) => [(7, i64 (bK row prior (k + 1) : Int)), (8, i64 (lK row prior (k + 1))), (9, vc2)]) (fun (vc2 : Value) w' => M w (fpU [Rg.sl u8 5 p data]) w' [Rg.sl u8 5 p data, Rg.sl u8 5 vc2 (cK row prior (k + 1))]) ?_ ?_
  ·
   refine C.block $ Kb $ Km rfl $ Kd rfl $ Kf rfl $ Km rfl $ E.call rfl rfl (Filter_ret k q r row prior _ (hM.arg hq oq) (hM.arg hr or_) hl) ?_
   rintro _ w1 ⟨vo, rfl, m⟩
   rw [hO] at m
   have hM := hM.call m
   refine Km rfl $ E.ext rfl rfl rfl $ E.ext rfl rfl rfl $ Kn rfl $ Kd rfl $ Km rfl $ E.call rfl rfl (weight_ret vo (fil k row prior) _ (hM.sl 2 rfl) (by omega)) ?_
   rintro _ w2 ⟨rfl, x2⟩
   have hM := hM.ext x2
   refine Kc rfl $ C.chainE [(0, _), (1, _), (2, _), (7, _), (8, _), (9, _), (10, _), (11, _), (13, _), (14, _)] rfl [(32, .bool (decide (lK row prior k < 0 ∨ (wgt (fil k row prior) : Int) < lK row prior k)))] ?_ ?_
   ·
    refine C.region $ Km rfl $ Kp rfl $ Km rfl $ E.split 28 rfl (fun g28 => ?_) (fun g28 => ?_)
    ·
     try simp only [Ya, Yb, Yc, Yd, Ye, Yf] at g28
     refine Kq rfl $ Kq rfl $ Kq rfl $ Kr rfl $ E.nil $ X.join0 (Sub.cons (by exact leaf_t (by omega)) $ Sub.nil _) rfl rfl
    try simp only [Ya, Yb, Yc, Yd, Ye, Yf] at g28
    refine Ko rfl $ Km rfl $ Ko rfl $ Km rfl $ Ko rfl $ Kp rfl $ Kr rfl $ E.nil $ X.join0 (Sub.cons (by exact leaf_d (by omega)) $ Sub.nil _) rfl rfl
   refine C.cond' rfl (fun hC1 => ?_) (fun hC1 => ?_)
   ·
    refine C.region $ Kf rfl $ Km rfl $ Kn rfl $ Kn rfl $ Kn rfl $ E.nil $ X.outN $ ?_
    have hbt := bK_t hC1
    refine X.join1 vo (Sub.cons (look_val rfl (by rw [bK_s, hbt])) $ Sub.cons (look_val rfl (by rw [lK_s, hbt])) $ S1 rfl) rfl (by rw [cK_s, hbt]; exact hM.pick [0, 2] (by decide))
   refine C.skip $ X.outN $ ?_
   obtain ⟨e1, e2, e3⟩ := bK_f hC1
   refine X.join1 vc (Sub.cons (look_val rfl (by rw [e1])) $ Sub.cons (look_val rfl e2.symm) $ S1 rfl) rfl (by rw [e3]; exact hM.pick [0, 1] (by decide))
  rintro vc2 w3 hM
  refine C.region $ E.add rfl rfl (by omega) rfl $ Km rfl $ E.nil $ X.again2 (k + 1) vc2 (Sub.cons rfl $ Sub.cons rfl $ Sub.cons rfl $ S1 rfl) rfl ⟨hM, by omega⟩ (by omega)
 obtain rfl : k = 5 := by omega
 have hbl := bsk_le row prior 4
 have hfl := fil_len (bsk row prior 4) row prior
 rw [show bK row prior 5 = bsk row prior 4 from rfl]
 rw [show cK row prior 5 = fil (bsk row prior 4) row prior from rfl] at hM
 refine Kx $ Kb $ Kf rfl $ E.conv rfl U3 U5 (c := ((UInt8.ofNat (bsk row prior 4)).toNat : Int)) (wrap8 _) rfl $ E.pushM 0 (UInt8.ofNat (bsk row prior 4)) hM rfl rfl rfl U22 elem_Tuint8 rfl (by omega) (by omega) (by simp) rfl rfl ?_
 intro v41 u41 w4 hM
 refine Km rfl $ E.appendM 0 hM rfl rfl rfl U22 elem_Tuint8 (hM.sl 1 rfl) (fun _ => rfl) (by rw [List.length_append, List.length_singleton]; omega) (by rw [List.length_append, List.length_singleton]; omega) rfl ?_
 intro v43 w5 hM
 refine Kc rfl $ C.ret $ ret1 rfl rfl ?_
 exact by rw [bst, List.append_cons]; exact hM.pick [0] (by decide)
set_option maxHeartbeats 1000000 in
theorem appendPixels_ret (p q : Value) (pix row : List UInt8) (wd d : Nat) (w : World) (hs : Sep w [Rg.sl u8 5 p pix]) (hq : RdL u8 w q row) (oq : Off (fpU [Rg.sl u8 5 p pix]) q row) (hd : d = 1 ∨ d = 2 ∨ d = 4 ∨ d = 8) (hw : wd ≤ 4096) (hl : (wd * d + 7) / 8 ≤ row.length) (hpl : pix.length ≤ 100000000) :
  Ret Tryz.prog 30 #[p, q, i64 wd, i64 d] w fun v w' => M w (fpU [Rg.sl u8 5 p pix]) w' [Rg.sl u8 5 v (pix ++ vls row wd d)] := by
 have hM := M.startS hs
 refine enter Tryz.func30 rfl (by kernel_rfl) Tryz.ntmps30 rfl $ Kb $ Kd rfl $ Km rfl $ E.shl (c := ((2 ^ d : Nat) : Int)) rfl rfl (by omega) (by rcases hd with rfl | rfl | rfl | rfl <;> decide) rfl ?_
 have h2d : 2 ≤ 2 ^ d ∧ 2 ^ d ≤ 256 := by rcases hd with rfl | rfl | rfl | rfl <;> decide
 obtain ⟨W, hW⟩ : ∃ W, W = wd * d := ⟨_, rfl⟩
 rw [← hW] at hl
 refine E.subN (a := 2 ^ d) (b := 1) rfl rfl (by omega) rfl $ Kc rfl $ C.seq $ Kb $ Kf rfl $ Ka $ C.block $ C.loop2 [(1, _), (3, _), (9, _), (16, _)] rfl (fun (x : Nat) (vp : Value) => [(0, vp), (17, i64 x)]) (fun (x : Nat) (vp : Value) w' => M w (fpU [Rg.sl u8 5 p pix]) w' [Rg.sl u8 5 vp (pix ++ tab x (vlk row d))] ∧ x ≤ wd) (fun (x : Nat) (vp : Value) => wd - x) 0 p ?_ ?_ ?_
 · exact Sub.cons rfl $ S1 rfl
 · exact ⟨by rw [tab_zero, List.append_nil]; exact hM, Nat.zero_le _⟩
 rintro x vp w0 ⟨hM, hx⟩
 refine Kb $ Kp rfl $ Ka $ C.seq $ C.cond' rfl (fun hC0 => ?_) (fun hC0 => ?_)
 ·
  have hx' : x < wd := by omega
  have hxd : x * d + d ≤ W ∧ x * d % 8 + d ≤ 8 ∧ x * d ≤ 32768 ∧ 1 ≤ d ∧ d ≤ 8 := by
   rw [hW]
   rcases hd with rfl | rfl | rfl | rfl <;> omega
  have hvk : vlk row d x = UInt8.ofNat (255 * (at_ row (x * d / 8) / 2 ^ (8 - d - x * d % 8) % 2 ^ d) / (2 ^ d - 1)) := rfl
  have hln : (pix ++ tab x (vlk row d)).length = pix.length + x := by rw [List.length_append, tab_len]
  refine Kk $ C.seq $ C.block $ Kb $ Km rfl $ Kd rfl $ Kf rfl $ E.mulN (a := x) (b := d) rfl rfl (by omega) rfl ?_
  obtain ⟨a, ha⟩ : ∃ a, a = x * d := ⟨_, rfl⟩
  rw [← ha] at hxd hvk ⊢
  refine Kd rfl $ Kf rfl $ E.quo rfl rfl (by omega) (IntWalk.i64_quo _ _ (by omega)) rfl $ E.get (k := a / 8) rfl rfl (hM.arg hq oq) (by omega) (by omega) U22 (by kernel_rfl) U5 rfl rfl rfl ?_
  rw [u8c, at_get (show a / 8 < row.length by omega)]
  have hal := at_le row (a / 8)
  refine E.conv rfl U5 U3 (IntWalk.i64_in _ (by omega)) rfl $ Km rfl $ E.subN (a := 8) (b := d) rfl rfl (by omega) rfl $ Km rfl $ E.rem rfl rfl (by omega) (remN (a := a) (b := 8)) rfl $ E.subN (a := 8 - d) (b := a % 8) rfl rfl (by omega) rfl $ E.shr rfl rfl (by omega) (shr_i64 (v := at_ row (a / 8)) (k := 8 - d - a % 8) (by omega)) rfl ?_
  obtain ⟨u, hu⟩ : ∃ u, u = at_ row (a / 8) / 2 ^ (8 - d - a % 8) := ⟨_, rfl⟩
  have hul : u ≤ 255 := by rw [hu]; exact Nat.le_trans (Nat.div_le_self _ _) hal
  rw [← hu] at hvk ⊢
  refine Km rfl $ E.binw rfl rfl rfl (congrArg _ (and_mask (v := u) (d := d) hul (by omega))) rfl ?_
  obtain ⟨z, hz⟩ : ∃ z, z = u % 2 ^ d := ⟨_, rfl⟩
  have hzl : z ≤ 255 := by rw [hz]; exact Nat.le_trans (Nat.mod_le _ _) hul
  rw [← hz] at hvk ⊢
  refine Kc rfl $ C.region $ Kf rfl $ E.mulN (a := 255) (b := z) rfl rfl (by omega) rfl $ Km rfl $ E.quo rfl rfl (by omega) (IntWalk.i64_quo _ _ (by omega)) rfl $ E.conv rfl U3 U5 (c := ((vlk row d x).toNat : Int)) (by rw [hvk, ← Int.natCast_ediv]; exact wrap8 _) rfl $ E.pushM 0 (vlk row d x) hM rfl rfl rfl U22 elem_Tuint8 rfl (by omega) (by omega) (by simp) rfl rfl ?_
  intro v44 u44 w1 hM
  refine Kn rfl $ E.nil $ X.outN $ X.next $ C.region $ E.add rfl rfl (by omega) rfl $ Km rfl $ E.nil $ ?_
  rw [List.append_assoc, ← tab_succ] at hM
  refine X.again2 (x + 1) _ (Sub.cons rfl $ S1 rfl) rfl ⟨hM.pick [0] (by decide), by omega⟩ (by omega)
 obtain rfl : x = wd := by omega
 refine Kx $ Kb $ Km rfl $ Kc rfl $ C.ret $ ret1 rfl rfl ?_
 exact hM
end Go.Proofs.YtajklleiifhipaaGreatDoor
namespace Go.Proofs.YtajklleiifhipaaGreatDoor
open Go.RowKit Sym Go.ChangeShapes Go.WideShapes Go.ChangeAt
theorem one_i64 {W : World} {c : Value} (h : Trd Tryz.prog W 3 [c]) : ∃ n : Int, c = i64 n := by
 obtain ⟨n, e, _⟩ := h.int U3
 exact ⟨n, by simpa using e⟩
set_option maxRecDepth 100000 in
theorem arg_img {W : World} {r : Reach} {b0 : Nat} {v : Value} (hv : Value.okWide Tryz.prog W r b0 24 v) (h : Trd Tryz.prog W 24 v.cells.toList) : ∃ (x y : Int) (vp : Value) (l : List UInt8), v = imv x y vp ∧ RdL u8 W vp l := by
 obtain ⟨cs, rfl⟩ := agg_struct U24 hv
 rw [agg_cells] at h
 obtain ⟨hl, hf⟩ := h.struct U24
 obtain ⟨a0, t0, rfl, hl0⟩ := split1 (n := 2) hl
 obtain ⟨a1, t1, rfl, hl1⟩ := split1 (n := 1) hl0
 obtain ⟨a2, t2, rfl, hl2⟩ := split1 (n := 0) hl1
 obtain rfl := List.length_eq_zero_iff.1 hl2
 obtain ⟨n0, rfl⟩ := one_i64 (show Trd Tryz.prog W 3 [a0] from hf 0 _ rfl)
 obtain ⟨n1, rfl⟩ := one_i64 (show Trd Tryz.prog W 3 [a1] from hf 1 _ rfl)
 obtain ⟨v2, l2, e2, r2⟩ := (show Trd Tryz.prog W 22 [a2] from hf 2 _ rfl).bytes U22 U5 (by kernel_rfl)
 obtain rfl : a2 = v2 := by simpa using e2
 exact ⟨n0, n1, a2, l2, rfl, r2⟩
end Go.Proofs.YtajklleiifhipaaGreatDoor
namespace Go.Proofs.YtajklleiifhipaaGreatDoor
open Go.RowKit Sym
namespace Df
theorem lgap : ∀ t, t < 285 → ∀ s, s < t → 257 ≤ s → lls s + 2 ^ lxt s ≤ lls t := by decide +kernel
theorem dgap : ∀ t, t < 30 → ∀ s, s < t → dls s + 2 ^ dxt s ≤ dls t := by decide +kernel
theorem lsy_284 {n : Nat} (h1 : 3 ≤ n) (h2 : n < 258) : lsy n ≤ 284 := by
  obtain ⟨h3, h4, h5, h6⟩ := lsy_spec h1 (by omega)
  by_cases c : lsy n = 285
  · rw [c] at h5; have : lls 285 = 258 := by decide
    omega
  omega
theorem lsy_258 : lsy 258 = 285 := by decide +kernel
end Df
theorem rpower_ret (n : Nat) (w : World) (hn : n ≤ 30) :
  Ret Tryz.prog 103 #[i64 n] w fun v w' => v = i64 ((2 ^ n : Nat) : Int) ∧ Ext w w' := by
 have hM := M.start w
 refine enter Tryz.func103 rfl (by kernel_rfl) Tryz.ntmps103 rfl $ Kb $ Kd rfl $ Kc rfl $ C.seq $ Kb $ Kc rfl $ C.block $ C.loop1 [(0, _)] rfl (fun (i : Nat) => [(3, i64 ((2 ^ i : Nat) : Int)), (4, i64 i)]) (fun (i : Nat) w' => M w (Nn) w' [] ∧ i ≤ n) (fun (i : Nat) => n - i) 0 ?_ ?_ ?_
 · exact Sub.cons rfl $ S1 rfl
 · exact ⟨hM, Nat.zero_le _⟩
 rintro i w0 ⟨hM, hi⟩
 refine C.seq $ Kb $ Kf rfl $ Kp rfl $ Ka $ C.cond' rfl (fun hC0 => ?_) (fun hC0 => ?_)
 ·
  have hp : 2 ^ i ≤ 2 ^ 30 := Nat.pow_le_pow_right (by decide) (by omega)
  refine Kk $ C.seq $ C.block $ C.region $ Km rfl $ E.mulN (a := 2) (b := 2 ^ i) rfl rfl (by omega) rfl $ Kn rfl $ E.nil $ X.outN $ X.next $ C.region $ Km rfl $ E.addN (a := i) (b := 1) rfl rfl (by omega) rfl $ Kn rfl $ E.nil $ X.again1 (i + 1) (Sub.cons (look_val rfl (by rw [Nat.pow_succ, Nat.mul_comm])) $ S1 rfl) rfl ⟨hM, by omega⟩ (by omega)
 obtain rfl : i = n := by omega
 refine Kx $ Kb $ Km rfl $ Kc rfl $ C.ret $ ret1 rfl rfl ?_
 exact ⟨rfl, hM.toExt⟩
theorem rlengthOf_ret (s : Nat) (w : World) (h1 : 257 ≤ s) (h2 : s ≤ 285) :
  Ret Tryz.prog 120 #[i64 s] w fun v w' => v = .tuple #[i64 (Df.lxt s : Int), i64 (Df.lls s : Int)] ∧ Ext w w' := by
 have hM := M.start w
 refine enter Tryz.func120 rfl (by kernel_rfl) Tryz.ntmps120 rfl $ Kb $ Kn rfl $ Kc rfl $ C.seq $ Kb $ Km rfl $ Kp rfl $ Ka $ C.cond' rfl (fun hC0 => ?_) (fun hC0 => ?_)
 ·
  refine Kb $ Kn rfl $ Kc rfl $ C.ret $ X.retT $ ret2 rfl rfl rfl ?_
  exact ⟨by (have e : s = 285 := (by omega)); subst e; rfl, hM.toExt⟩
 refine Kk $ C.seq $ Kb $ Km rfl $ Kp rfl $ Ka $ C.cond' rfl (fun hC1 => ?_) (fun hC1 => ?_)
 ·
  refine Kb $ Km rfl $ E.subN (a := s) (b := 254) rfl rfl (by omega) rfl $ Kn rfl $ Kc rfl $ C.ret $ X.retT $ ret2 rfl rfl rfl ?_
  exact ⟨by rw [Df.lxt, if_neg (by omega), if_pos (by omega), Df.lls, if_neg (by omega), if_pos (by omega)]; rfl, hM.toExt⟩
 refine Kk $ Kb $ Km rfl $ E.subN (a := s) (b := 261) rfl rfl (by omega) rfl $ E.quo rfl rfl (by omega) (quoN (a := s - 261) (b := 4) (by omega) (by omega)) rfl $ Kd rfl $ Kf rfl $ E.subN (a := s) (b := 257) rfl rfl (by omega) rfl $ E.rem rfl rfl (by omega) (remN (a := s - 257) (b := 4)) rfl $ E.addN (a := 4) (b := (s - 257) % 4) rfl rfl (by omega) rfl $ Km rfl $ E.call rfl rfl (rpower_ret ((s - 261) / 4) _ (by omega)) ?_
 rintro _ w1 ⟨rfl, x1⟩
 have hM := hM.ext x1
 have hp : 2 ^ ((s - 261) / 4) ≤ 2 ^ 6 := Nat.pow_le_pow_right (by decide) (by omega)
 have hp2 := Nat.mul_le_mul (show 4 + (s - 257) % 4 ≤ 7 by omega) hp
 refine E.mulN (a := 4 + (s - 257) % 4) (b := 2 ^ ((s - 261) / 4)) rfl rfl (by omega) rfl $ E.addN (a := 3) (b := (4 + (s - 257) % 4) * 2 ^ ((s - 261) / 4)) rfl rfl (by omega) rfl $ Kn rfl $ Kc rfl $ C.ret $ ret2 rfl rfl rfl ?_
 exact ⟨by rw [Df.lxt, Df.lls, if_neg (by omega), if_neg (by omega), if_neg (by omega), if_neg (by omega), show (s - 261) % 4 = (s - 257) % 4 by omega], hM.toExt⟩
theorem rdistanceOf_ret (s : Nat) (w : World) (h2 : s ≤ 29) :
  Ret Tryz.prog 121 #[i64 s] w fun v w' => v = .tuple #[i64 (Df.dxt s : Int), i64 (Df.dls s : Int)] ∧ Ext w w' := by
 have hM := M.start w
 refine enter Tryz.func121 rfl (by kernel_rfl) Tryz.ntmps121 rfl $ Kb $ Kn rfl $ Kc rfl $ C.seq $ Kb $ Km rfl $ Kp rfl $ Ka $ C.cond' rfl (fun hC0 => ?_) (fun hC0 => ?_)
 ·
  refine Kb $ Km rfl $ E.addN (a := s) (b := 1) rfl rfl (by omega) rfl $ Kn rfl $ Kc rfl $ C.ret $ X.retT $ ret2 rfl rfl rfl ?_
  exact ⟨by rw [Df.dxt, Df.dls, if_pos (by omega), if_pos (by omega)]; rfl, hM.toExt⟩
 refine Kk $ Kb $ Km rfl $ E.quo rfl rfl (by omega) (quoN (a := s) (b := 2) (by omega) (by omega)) rfl $ E.subN (a := s / 2) (b := 1) rfl rfl (by omega) rfl $ Kd rfl $ Kf rfl $ E.rem rfl rfl (by omega) (remN (a := s) (b := 2)) rfl $ E.addN (a := 2) (b := s % 2) rfl rfl (by omega) rfl $ Km rfl $ E.call rfl rfl (rpower_ret (s / 2 - 1) _ (by omega)) ?_
 rintro _ w1 ⟨rfl, x1⟩
 have hM := hM.ext x1
 have hp : 2 ^ (s / 2 - 1) ≤ 2 ^ 13 := Nat.pow_le_pow_right (by decide) (by omega)
 have hp2 := Nat.mul_le_mul (show 2 + s % 2 ≤ 3 by omega) hp
 refine E.mulN (a := 2 + s % 2) (b := 2 ^ (s / 2 - 1)) rfl rfl (by omega) rfl $ E.addN (a := 1) (b := (2 + s % 2) * 2 ^ (s / 2 - 1)) rfl rfl (by omega) rfl $ Kn rfl $ Kc rfl $ C.ret $ ret2 rfl rfl rfl ?_
 exact ⟨by rw [Df.dxt, Df.dls, if_neg (by omega), if_neg (by omega)], hM.toExt⟩
set_option maxHeartbeats 1000000 in
theorem rlengthSymbol_ret (n : Nat) (w : World) (h1 : 3 ≤ n) (h2 : n ≤ 258) :
  Ret Tryz.prog 106 #[i64 n] w fun v w' => v = .tuple #[i64 (Df.lsy n : Int), i64 (Df.lxt (Df.lsy n) : Int), i64 ((n - Df.lls (Df.lsy n) : Nat) : Int)] ∧ Ext w w' := by
 have hM := M.start w
 refine enter Tryz.func106 rfl (by kernel_rfl) Tryz.ntmps106 rfl $ Kb $ Kn rfl $ Kn rfl $ Kc rfl $ C.seq $ Kb $ Km rfl $ Kp rfl $ Ka $ C.cond' rfl (fun hC0 => ?_) (fun hC0 => ?_)
 ·
  obtain rfl : n = 258 := by omega
  refine Kb $ Kn rfl $ Kn rfl $ Kc rfl $ C.ret $ X.retT $ ret3 rfl rfl rfl rfl ?_
  exact ⟨by rw [Df.lsy_258]; rfl, hM.toExt⟩
 have h284 := Df.lsy_284 h1 (by omega)
 obtain ⟨hy1, hy2, hy3, hy4⟩ := Df.lsy_spec h1 h2
 refine Kk $ C.seq $ Kb $ Kc rfl $ C.block $ C.loop1 [(0, _)] rfl (fun (s : Nat) => [(5, i64 s)]) (fun (s : Nat) w' => M w (Nn) w' [] ∧ 257 ≤ s ∧ s ≤ Df.lsy n) (fun (s : Nat) => 285 - s) 257 ?_ ?_ ?_
 · exact S1 rfl
 · exact ⟨hM, by omega, hy1⟩
 rintro s w0 ⟨hM, hs1, hs2⟩
 refine C.seq $ Kb $ Km rfl $ Kp rfl $ Ka $ C.cond' rfl (fun hC1 => ?_) (fun hC1 => ?_)
 ·
  refine Kk $ C.seq $ C.block $ Kb $ Km rfl $ E.call rfl rfl (rlengthOf_ret s _ hs1 (by omega)) ?_
  rintro _ w1 ⟨rfl, x1⟩
  have hM := hM.ext x1
  have hbd := Df.lx_bd s (by omega)
  have hp : 2 ^ Df.lxt s ≤ 2 ^ 5 := Nat.pow_le_pow_right (by decide) (by omega)
  refine Km rfl $ E.ext rfl rfl rfl $ E.ext rfl rfl rfl $ Kn rfl $ Kc rfl $ C.cut0 [(0, _), (5, _), (6, _), (7, _)] rfl [(29, .bool (decide (Df.lls s ≤ n ∧ n < Df.lls s + 2 ^ Df.lxt s)))] (fun w' => M w (Nn) w' []) ?_ ?_
  ·
   refine C.region $ Kf rfl $ Kp rfl $ Km rfl $ E.split 22 rfl (fun g22 => ?_) (fun g22 => ?_)
   ·
    try simp only [Ya, Yb, Yc, Yd, Ye, Yf] at g22
    refine Ko rfl $ Km rfl $ Ko rfl $ Km rfl $ Ko rfl $ Km rfl $ Ko rfl $ E.call rfl rfl (rpower_ret (Df.lxt s) _ (by omega)) ?_
    rintro _ w2 ⟨rfl, x2⟩
    have hM := hM.ext x2
    refine Ko rfl $ E.addN (a := Df.lls s) (b := 2 ^ Df.lxt s) rfl rfl (by omega) rfl $ Ko rfl $ Kp rfl $ Kr rfl $ E.nil $ X.join0  (Sub.cons (look_eq rfl (congrArg _ (decide_eq_decide.2 ⟨fun h => by omega, fun h => by omega⟩))) $ Sub.nil _) rfl hM
   try simp only [Ya, Yb, Yc, Yd, Ye, Yf] at g22
   refine Kq rfl $ Kq rfl $ Kq rfl $ Kq rfl $ Kq rfl $ Kq rfl $ Kr rfl $ E.nil $ X.join0  (Sub.cons (look_eq rfl (by rw [decide_eq_false (fun h => by omega)])) $ Sub.nil _) rfl hM
  rintro  w3 hM
  refine C.cond' rfl (fun hC2 => ?_) (fun hC2 => ?_)
  ·
   have hse : s = Df.lsy n := by
    by_cases c : s = Df.lsy n
    · exact c
    have := Df.lgap (Df.lsy n) (by omega) s (by omega) hs1; omega
   subst hse
   refine Kb $ Kf rfl $ Kf rfl $ E.subN (a := n) (b := Df.lls (Df.lsy n)) rfl rfl (by omega) rfl $ Kn rfl $ Kn rfl $ Kc rfl $ C.ret $ X.retB $ X.retT $ X.retT $ X.retB $ X.retT $ ret3 rfl rfl rfl rfl ?_
   exact ⟨rfl, hM.toExt⟩
  have hne : s ≠ Df.lsy n := fun h => by rw [h] at hC2; exact hC2 ⟨hy3, hy4⟩
  refine C.skip $ X.outN $ X.next $ C.region $ Km rfl $ E.addN (a := s) (b := 1) rfl rfl (by omega) rfl $ Kn rfl $ E.nil $ X.again1 (s + 1) (S1 rfl) rfl ⟨hM, by omega, by omega⟩ (by omega)
 omega
set_option maxHeartbeats 1000000 in
theorem rdistanceSymbol_ret (n : Nat) (w : World) (h1 : 1 ≤ n) (h2 : n ≤ 32768) :
  Ret Tryz.prog 107 #[i64 n] w fun v w' => v = .tuple #[i64 (Df.dsy n : Int), i64 (Df.dxt (Df.dsy n) : Int), i64 ((n - Df.dls (Df.dsy n) : Nat) : Int)] ∧ Ext w w' := by
 have hM := M.start w
 refine enter Tryz.func107 rfl (by kernel_rfl) Tryz.ntmps107 rfl $ Kb $ Kn rfl $ Kn rfl $ Kc rfl $ C.seq $ Kb $ Kc rfl $ C.block $ ?_
 obtain ⟨hy2, hy3, hy4⟩ := Df.dsy_spec h1 h2
 refine C.loop1 [(0, _)] rfl (fun (s : Nat) => [(5, i64 s)]) (fun (s : Nat) w' => M w (Nn) w' [] ∧ s ≤ Df.dsy n) (fun (s : Nat) => 30 - s) 0 ?_ ?_ ?_
 · exact S1 rfl
 · exact ⟨hM, Nat.zero_le _⟩
 rintro s w0 ⟨hM, hs2⟩
 refine C.seq $ Kb $ Km rfl $ Kp rfl $ Ka $ C.cond' rfl (fun hC0 => ?_) (fun hC0 => ?_)
 ·
  refine Kk $ C.seq $ C.block $ Kb $ Km rfl $ E.call rfl rfl (rdistanceOf_ret s _ (by omega)) ?_
  rintro _ w1 ⟨rfl, x1⟩
  have hM := hM.ext x1
  have hbd := Df.dx_bd s (by omega)
  have hp : 2 ^ Df.dxt s ≤ 2 ^ 13 := Nat.pow_le_pow_right (by decide) (by omega)
  refine Km rfl $ E.ext rfl rfl rfl $ E.ext rfl rfl rfl $ Kn rfl $ Kc rfl $ C.cut0 [(0, _), (5, _), (6, _), (7, _)] rfl [(27, .bool (decide (Df.dls s ≤ n ∧ n < Df.dls s + 2 ^ Df.dxt s)))] (fun w' => M w (Nn) w' []) ?_ ?_
  ·
   refine C.region $ Kf rfl $ Kp rfl $ Km rfl $ E.split 20 rfl (fun g20 => ?_) (fun g20 => ?_)
   ·
    try simp only [Ya, Yb, Yc, Yd, Ye, Yf] at g20
    refine Ko rfl $ Km rfl $ Ko rfl $ Km rfl $ Ko rfl $ Km rfl $ Ko rfl $ E.call rfl rfl (rpower_ret (Df.dxt s) _ (by omega)) ?_
    rintro _ w2 ⟨rfl, x2⟩
    have hM := hM.ext x2
    refine Ko rfl $ E.addN (a := Df.dls s) (b := 2 ^ Df.dxt s) rfl rfl (by omega) rfl $ Ko rfl $ Kp rfl $ Kr rfl $ E.nil $ X.join0  (Sub.cons (look_eq rfl (congrArg _ (decide_eq_decide.2 ⟨fun h => by omega, fun h => by omega⟩))) $ Sub.nil _) rfl hM
   try simp only [Ya, Yb, Yc, Yd, Ye, Yf] at g20
   refine Kq rfl $ Kq rfl $ Kq rfl $ Kq rfl $ Kq rfl $ Kq rfl $ Kr rfl $ E.nil $ X.join0  (Sub.cons (look_eq rfl (by rw [decide_eq_false (fun h => by omega)])) $ Sub.nil _) rfl hM
  rintro  w3 hM
  refine C.cond' rfl (fun hC1 => ?_) (fun hC1 => ?_)
  ·
   have hse : s = Df.dsy n := by
    by_cases c : s = Df.dsy n
    · exact c
    have := Df.dgap (Df.dsy n) (by omega) s (by omega); omega
   subst hse
   refine Kb $ Kf rfl $ Kf rfl $ E.subN (a := n) (b := Df.dls (Df.dsy n)) rfl rfl (by omega) rfl $ Kn rfl $ Kn rfl $ Kc rfl $ C.ret $ X.retB $ X.retT $ X.retT $ X.retB $ X.retT $ ret3 rfl rfl rfl rfl ?_
   exact ⟨rfl, hM.toExt⟩
  have hne : s ≠ Df.dsy n := fun h => by rw [h] at hC1; exact hC1 ⟨hy3, hy4⟩
  refine C.skip $ X.outN $ X.next $ C.region $ Km rfl $ E.addN (a := s) (b := 1) rfl rfl (by omega) rfl $ Kn rfl $ E.nil $ X.again1 (s + 1) (S1 rfl) rfl ⟨hM, by omega⟩ (by omega)
 omega
theorem rfixL_ret (w : World) :
  Ret Tryz.prog 75 #[] w fun v w' => M w Nn w' [Rg.sl i64 3 v (nz Df.fixL)] := by
 have hM := M.start w
 refine enter Tryz.func75 rfl (by kernel_rfl) Tryz.ntmps75 rfl $ Kb $ Kd rfl $ Kc rfl $ C.seq $ Kb $ Kc rfl $ C.block $ ?_
 have hM := hM.nil i64 3
 try dsimp only [Za, Zb, Zc, Zd, repl] at hM
 refine C.loop2 [] rfl (fun (k : Nat) (v1 : Value) => [(1, v1), (2, i64 k)]) (fun (k : Nat) (v1 : Value) w' => M w (Nn) w' [Rg.sl i64 3 v1 (tab k (fun i => (Df.fxl i : Int)))] ∧ k ≤ 288) (fun (k : Nat) (v1 : Value) => 288 - k) 0 (.slice none 0 0) ?_ ?_ ?_
 · exact Sub.cons rfl $ S1 rfl
 · exact ⟨hM, by omega⟩
 rintro k v1 w0 ⟨hM, hk⟩
 refine C.seq $ Kb $ Km rfl $ Kp rfl $ Ka $ C.cond' rfl (fun hC0 => ?_) (fun hC0 => ?_)
 ·
  have htl := tab_len k (fun i => (Df.fxl i : Int))
  refine Kk $ C.cut1 [(2, _)] rfl (fun (v1 : Value) => [(1, v1)]) (fun (v1 : Value) w' => M w (Nn) w' [Rg.sl i64 3 v1 (tab (k + 1) (fun i => (Df.fxl i : Int)))]) ?_ ?_
  ·
   refine C.block $ C.block $ Kb $ Km rfl $ Kp rfl $ Kc rfl $ C.cond' rfl (fun hC1 => ?_) (fun hC1 => ?_)
   ·
    refine C.region $ Km rfl $ E.pushM (enc := i64) 0 (8 : Int) hM rfl rfl rfl U76 elem_Tint rfl (by omega) (by omega) (by simp) rfl rfl ?_
    intro v15 u15 w1 hM
    try dsimp only [Za, Zb, Zc, Zd, repl] at hM
    refine Kn rfl $ E.nil $ X.outN $ X.outN $ X.join1 v15 (S1 rfl) rfl (hM.to (by rw [tab_succ, show ((Df.fxl k : Nat) : Int) = 8 by unfold Df.fxl; split <;> (try split) <;> (try split) <;> omega]))
   refine Kb $ Km rfl $ Kp rfl $ Kc rfl $ C.cond' rfl (fun hC2 => ?_) (fun hC2 => ?_)
   ·
    refine C.region $ Km rfl $ E.pushM (enc := i64) 0 (9 : Int) hM rfl rfl rfl U76 elem_Tint rfl (by omega) (by omega) (by simp) rfl rfl ?_
    intro v21 u21 w2 hM
    try dsimp only [Za, Zb, Zc, Zd, repl] at hM
    refine Kn rfl $ E.nil $ X.outN $ X.outN $ X.join1 v21 (S1 rfl) rfl (hM.to (by rw [tab_succ, show ((Df.fxl k : Nat) : Int) = 9 by unfold Df.fxl; split <;> (try split) <;> (try split) <;> omega]))
   refine Kb $ Km rfl $ Kp rfl $ Kc rfl $ C.cond' rfl (fun hC3 => ?_) (fun hC3 => ?_)
   ·
    refine C.region $ Km rfl $ E.pushM (enc := i64) 0 (7 : Int) hM rfl rfl rfl U76 elem_Tint rfl (by omega) (by omega) (by simp) rfl rfl ?_
    intro v27 u27 w3 hM
    try dsimp only [Za, Zb, Zc, Zd, repl] at hM
    refine Kn rfl $ E.nil $ X.outN $ X.outN $ X.join1 v27 (S1 rfl) rfl (hM.to (by rw [tab_succ, show ((Df.fxl k : Nat) : Int) = 7 by unfold Df.fxl; split <;> (try split) <;> (try split) <;> omega]))
   refine C.region $ Km rfl $ E.pushM (enc := i64) 0 (8 : Int) hM rfl rfl rfl U76 elem_Tint rfl (by omega) (by omega) (by simp) rfl rfl ?_
   intro v9 u9 w4 hM
   try dsimp only [Za, Zb, Zc, Zd, repl] at hM
   refine Kn rfl $ E.nil $ X.outN $ X.outN $ X.join1 v9 (S1 rfl) rfl (hM.to (by rw [tab_succ, show ((Df.fxl k : Nat) : Int) = 8 by unfold Df.fxl; split <;> (try split) <;> (try split) <;> omega]))
  rintro v1 w5 hM
  refine C.region $ Km rfl $ E.addN (a := k) (b := 1) rfl rfl (by omega) rfl $ Kn rfl $ E.nil $ X.again2 (k + 1) v1 (Sub.cons rfl $ S1 rfl) rfl ⟨hM, by omega⟩ (by omega)
 obtain rfl : k = 288 := by omega
 refine Kx $ Kb $ Km rfl $ Kc rfl $ C.ret $ ret1 rfl rfl ?_
 exact hM.to (by rw [Df.fixL, Df.nz_tab])
theorem rfixD_ret (w : World) :
  Ret Tryz.prog 76 #[] w fun v w' => M w Nn w' [Rg.sl i64 3 v (nz Df.fixD)] := by
 have hM := M.start w
 refine enter Tryz.func76 rfl (by kernel_rfl) Tryz.ntmps76 rfl $ Kb $ Kd rfl $ Kc rfl $ C.seq $ Kb $ Kc rfl $ C.block $ ?_
 have hM := hM.nil i64 3
 try dsimp only [Za, Zb, Zc, Zd, repl] at hM
 refine C.loop2 [] rfl (fun (k : Nat) (v1 : Value) => [(1, v1), (2, i64 k)]) (fun (k : Nat) (v1 : Value) w' => M w (Nn) w' [Rg.sl i64 3 v1 (tab k (fun _ => (5 : Int)))] ∧ k ≤ 32) (fun (k : Nat) (v1 : Value) => 32 - k) 0 (.slice none 0 0) ?_ ?_ ?_
 · exact Sub.cons rfl $ S1 rfl
 · exact ⟨hM, by omega⟩
 rintro k v1 w0 ⟨hM, hk⟩
 refine C.seq $ Kb $ Km rfl $ Kp rfl $ Ka $ C.cond' rfl (fun hC0 => ?_) (fun hC0 => ?_)
 ·
  have htl := tab_len k (fun _ => (5 : Int))
  refine Kk $ C.seq $ C.block $ C.region $ Km rfl $ E.pushM (enc := i64) 0 (5 : Int) hM rfl rfl rfl U76 elem_Tint rfl (by omega) (by omega) (by simp) rfl rfl ?_
  intro v9 u9 w1 hM
  try dsimp only [Za, Zb, Zc, Zd, repl] at hM
  refine Kn rfl $ E.nil $ X.outN $ X.next $ C.region $ Km rfl $ E.addN (a := k) (b := 1) rfl rfl (by omega) rfl $ Kn rfl $ E.nil $ X.again2 (k + 1) v9 (Sub.cons rfl $ S1 rfl) rfl ⟨hM.to (by rw [tab_succ]), by omega⟩ (by omega)
 obtain rfl : k = 32 := by omega
 refine Kx $ Kb $ Km rfl $ Kc rfl $ C.ret $ ret1 rfl rfl ?_
 exact hM.to (by rw [Df.fixD, Df.nz_tab]; rfl)
theorem rorder_ret (w : World) :
  Ret Tryz.prog 112 #[] w fun v w' => M w Nn w' [Rg.sl i64 3 v (nz Df.ordL)] := by
 have hM := M.start w
 refine enter Tryz.func112 rfl (by kernel_rfl) Tryz.ntmps112 rfl $ Kb $ Kd rfl $ E.mkM (enc := i64) (e := 3) (nz Df.ordL) hM rfl (fun _ => by kernel_rfl) rfl rfl rfl ?_
 intro v1 w0 hM
 refine Kc rfl $ C.ret $ ret1 rfl rfl ?_
 exact hM
end Go.Proofs.YtajklleiifhipaaGreatDoor
