/- Texts of the claim, laid together: Pg5, Pg7. -/
import Derived.Test.YtajklleiifhipaaGreatDoorY0
import Derived.Test.YtajklleiifhipaaGreatDoorY5
import Derived.Test.YtajklleiifhipaaGreatDoorY12
import Derived.Test.YtajklleiifhipaaGreatDoorY13
import Derived.Test.YtajklleiifhipaaGreatDoorY18
import Derived.Test.YtajklleiifhipaaGreatDoorY19
import Derived.Test.YtajklleiifhipaaGreatDoorY20
set_option linter.unusedSimpArgs false
set_option linter.unusedVariables false
namespace Go.Proofs.YtajklleiifhipaaGreatDoor
open Go.RowKit Sym
open Pg
theorem Sym.M.offSl {α : Type} {enc : α → Value} {e : TypeId} {w0 w : World} {S : Nat → Prop} {rs : List Rg} {v : Value} {l : List α} {q : Rg} (h : M w0 S w rs) (i j : Nat) (hne : i ≠ j) (hi : rs[i]? = some (Rg.sl enc e v l)) (hj : rs[j]? = some q) : Off (fpU [q]) v l := by
 have ho : OwnL enc w 0 e v l := h.own i hi
 rcases ho.2 with ⟨_, h0⟩ | ⟨g, cap, cur, rfl, _⟩
 · exact .inl (List.length_eq_zero_iff.1 h0)
 exact .inr fun hf => h.sep.apart i j _ q hi hj hne g rfl (fp1.1 hf)
theorem mul_small {a b : Int} (h1 : 1 ≤ a) (h2 : a ≤ 4096) (h3 : 1 ≤ b) (h4 : b ≤ 4096) : 0 ≤ a * b ∧ a * b ≤ 16777216 :=
 ⟨Int.mul_nonneg (by omega) (by omega), by have := Int.mul_le_mul h2 h4 (by omega) (by omega); omega⟩
abbrev imv (W H : Int) (vp : Value) : Value := .agg #[i64 W, i64 H, vp]
namespace Pg
theorem pkx_zero (row : List UInt8) : pkx row 0 = List.replicate ((row.length + 7) / 8) 0 := by
 refine List.ext_getElem? fun j => ?_
 unfold pkx
 by_cases h : j < (row.length + 7) / 8
 · rw [tab_get h, List.getElem?_replicate, if_pos h, show min 8 (0 - 8 * j) = 0 by omega]; rfl
 rw [List.getElem?_eq_none (by rw [tab_len]; omega), List.getElem?_eq_none (by rw [List.length_replicate]; omega)]
theorem pkx_get {row : List UInt8} {x i : Nat} (h : i < (row.length + 7) / 8) : (pkx row x)[i]'(by rw [pkx_len]; exact h) = UInt8.ofNat (pb row i (min 8 (x - 8 * i))) := by
 have := tab_get (f := fun i => UInt8.ofNat (pb row i (min 8 (x - 8 * i)))) h
 unfold pkx
 rw [List.getElem?_eq_getElem (by rw [tab_len]; exact h)] at this
 exact Option.some.inj this
theorem pkx_step {row : List UInt8} {x : Nat} (h : x < row.length) : (pkx row x).set (x / 8) (UInt8.ofNat (pb row (x / 8) (x % 8 + 1))) = pkx row (x + 1) := by
  refine List.ext_getElem? fun j => ?_
  by_cases hj : j < (row.length + 7) / 8
  · by_cases e : x / 8 = j
    · subst e
      rw [List.getElem?_set_self (by rw [pkx_len]; exact hj)]
      unfold pkx
      rw [tab_get hj, show min 8 (x + 1 - 8 * (x / 8)) = x % 8 + 1 by omega]
    rw [List.getElem?_set_ne e]
    unfold pkx
    rw [tab_get hj, tab_get hj, show min 8 (x + 1 - 8 * j) = min 8 (x - 8 * j) by omega]
  rw [List.getElem?_eq_none (by rw [List.length_set, pkx_len]; omega), List.getElem?_eq_none (by rw [pkx_len]; omega)]
theorem pkx_skip {row : List UInt8} {x : Nat} (h : x < row.length) (h0 : at_ row x = 0) : pkx row (x + 1) = pkx row x := by
  unfold pkx
  refine tab_congr fun i hi => ?_
  by_cases e : x / 8 = i
  · subst e
    rw [show min 8 (x + 1 - 8 * (x / 8)) = min 8 (x - 8 * (x / 8)) + 1 by omega, pb, show 8 * (x / 8) + min 8 (x - 8 * (x / 8)) = x by omega, h0]; rfl
  rw [show min 8 (x + 1 - 8 * i) = min 8 (x - 8 * i) by omega]
theorem pb_or {row : List UInt8} {i k : Nat} (hk : k < 8) (h : at_ row (8 * i + k) ≠ 0) : bits .or .u8 (((UInt8.ofNat (pb row i k)).toNat : Nat) : Int) ((128 / 2 ^ k : Nat) : Int) = (((UInt8.ofNat (pb row i (k + 1))).toNat : Nat) : Int) := by
 have h1 := pb_lt row i k (by omega)
 have h2 := pb_lt row i (k + 1) (by omega)
 have e1 : (UInt8.ofNat (pb row i k)).toNat = pb row i k := by simp; omega
 have e2 : (UInt8.ofNat (pb row i (k + 1))).toNat = pb row i (k + 1) := by simp; omega
 have e3 : 128 / 2 ^ k = 2 ^ (7 - k) := by rw [show (128 : Nat) = 2 ^ 7 from rfl, Nat.pow_div (by omega) (by decide)]
 have e4 : 2 ^ (7 - k) < 2 ^ (8 - k) := Nat.pow_lt_pow_right (by decide) (by omega)
 have e5 : 128 / 2 ^ k < 256 := Nat.lt_of_le_of_lt (Nat.div_le_self _ _) (by decide)
 rw [e1, e2, u8_or_nat _ _ h1 e5, pb, if_pos h, e3, pb_vb row i k (by omega), ← Nat.shiftLeft_eq, ← Nat.shiftLeft_add_eq_or_of_lt e4]
theorem shr8 (x : Nat) : (128 : Int) / 2 ^ min ((x : Int) % 8).toNat IntKind.u8.bits = ((128 / 2 ^ (x % 8) : Nat) : Int) := by
 have h : ∀ s, s < 8 → (128 : Int) / 2 ^ min s IntKind.u8.bits = ((128 / 2 ^ s : Nat) : Int) := by decide
 rw [show ((x : Int) % 8).toNat = x % 8 by omega, h _ (Nat.mod_lt _ (by decide))]
theorem wgt_succ {l : List UInt8} {k : Nat} (h : k < l.length) : wgt (l.take (k + 1)) = wgt (l.take k) + min (l[k]).toNat (256 - (l[k]).toNat) := by
 unfold wgt
 rw [← List.take_append_getElem h, List.map_append, List.sum_append]; simp
def bK (row prior : List UInt8) : Nat → Nat
 | 0 => 0
 | k + 1 => bsk row prior k
theorem bK_s (row prior : List UInt8) (k : Nat) : bK row prior (k + 1) = bsk row prior k := rfl
def lK (row prior : List UInt8) : Nat → Int
 | 0 => -1
 | k + 1 => (wgt (fil (bsk row prior k) row prior) : Int)
theorem lK_s (row prior : List UInt8) (k : Nat) : lK row prior (k + 1) = (wgt (fil (bsk row prior k) row prior) : Int) := rfl
def cK (row prior : List UInt8) : Nat → List UInt8
 | 0 => []
 | k + 1 => fil (bsk row prior k) row prior
theorem cK_s (row prior : List UInt8) (k : Nat) : cK row prior (k + 1) = fil (bsk row prior k) row prior := rfl
theorem bK_t {row prior : List UInt8} {k : Nat} (h : lK row prior k < 0 ∨ (wgt (fil k row prior) : Int) < lK row prior k) : bsk row prior k = k := by
 cases k with
 | zero => rfl
 | succ k =>
  have : wgt (fil (k + 1) row prior) < wgt (fil (bsk row prior k) row prior) := by rw [lK_s] at h; omega
  rw [bsk, if_pos this]
theorem bK_f {row prior : List UInt8} {k : Nat} (h : ¬ (lK row prior k < 0 ∨ (wgt (fil k row prior) : Int) < lK row prior k)) : bK row prior (k + 1) = bK row prior k ∧ lK row prior (k + 1) = lK row prior k ∧ cK row prior (k + 1) = cK row prior k := by
 cases k with
 | zero => exact (h (.inl (show (-1 : Int) < 0 by decide))).elim
 | succ k =>
  have : ¬ wgt (fil (k + 1) row prior) < wgt (fil (bsk row prior k) row prior) := by rw [lK_s] at h; omega
  have e : bsk row prior (k + 1) = bsk row prior k := by rw [bsk, if_neg this]
  exact ⟨by rw [bK_s, bK_s, e], by rw [lK_s, lK_s, e], by rw [cK_s, cK_s, e]⟩
def vlk (row : List UInt8) (d x : Nat) : UInt8 := UInt8.ofNat (255 * (at_ row (x * d / 8) / 2 ^ (8 - d - x * d % 8) % 2 ^ d) / (2 ^ d - 1))
theorem shr_i64 {v k : Nat} (hk : k ≤ 63) : (v : Int) / 2 ^ min (k : Int).toNat IntKind.i64.bits = ((v / 2 ^ k : Nat) : Int) := by
 rw [Int.toNat_natCast, show min k IntKind.i64.bits = k from Nat.min_eq_left (by simp [IntKind.bits]; omega)]; simp
theorem and_mask {v d : Nat} (hv : v ≤ 255) (hd : d ≤ 8) : bits .and .i64 (v : Int) ((2 ^ d - 1 : Nat) : Int) = ((v % 2 ^ d : Nat) : Int) := by
 have : 2 ^ d ≤ 2 ^ 8 := Nat.pow_le_pow_right (by decide) hd
 rw [i64_and_nat _ _ (by omega) (by omega), Nat.and_two_pow_sub_one_eq_mod]
end Pg
theorem possible_ret (W H : Int) (w : World) :
  Ret Tryz.prog 41 #[i64 W, i64 H] w fun v w' => v = .bool (decide (1 ≤ W ∧ W ≤ 4096 ∧ 1 ≤ H ∧ H ≤ 4096 ∧ W * H ≤ 4194304)) ∧ Ext w w' := by
 have hM := M.start w
 refine enter Tryz.func41 rfl (by kernel_rfl) Tryz.ntmps41 rfl $ Kb $ Kc rfl $ C.chainE [] rfl [(4, .bool (decide (1 ≤ W ∧ W ≤ 4096 ∧ 1 ≤ H ∧ H ≤ 4096 ∧ W * H ≤ 4194304)))] ?_ ?_
 ·
  refine C.region $ Km rfl $ Kp rfl $ Km rfl $ E.split 7 rfl (fun g7 => ?_) (fun g7 => ?_)
  ·
   try simp only [Ya, Yb, Yc, Yd, Ye, Yf] at g7
   refine Ko rfl $ Km rfl $ Ko rfl $ Kp rfl $ Kr rfl $ Km rfl $ E.split 11 rfl (fun g11 => ?_) (fun g11 => ?_)
   ·
    try simp only [Ya, Yb, Yc, Yd, Ye, Yf] at g11
    refine Ko rfl $ Km rfl $ Ko rfl $ Kp rfl $ Kr rfl $ Km rfl $ E.split 15 rfl (fun g15 => ?_) (fun g15 => ?_)
    ·
     try simp only [Ya, Yb, Yc, Yd, Ye, Yf] at g15
     refine Ko rfl $ Km rfl $ Ko rfl $ Kp rfl $ Kr rfl $ Km rfl $ E.split 19 rfl (fun g19 => ?_) (fun g19 => ?_)
     ·
      try simp only [Ya, Yb, Yc, Yd, Ye, Yf] at g19
      have hms := mul_small (a := W) (b := H) (by omega) (by omega) (by omega) (by omega)
      refine Ko rfl $ Km rfl $ Ko rfl $ Km rfl $ Ko rfl $ E.mul rfl rfl (by omega) rfl $ Ko rfl $ Kp rfl $ Kr rfl $ Kn rfl $ E.nil $ X.join0 (Sub.cons (look_eq rfl (congrArg Value.bool (by exact decide_eq_decide.2 ⟨fun h => by omega, fun h => by omega⟩))) $ Sub.nil _) rfl rfl
     try simp only [Ya, Yb, Yc, Yd, Ye, Yf] at g19
     refine Kq rfl $ Kq rfl $ Kq rfl $ Kq rfl $ Kr rfl $ Kn rfl $ E.nil $ X.join0 (Sub.cons (look_eq rfl (congrArg Value.bool (by exact (decide_eq_false (p := 1 ≤ W ∧ W ≤ 4096 ∧ 1 ≤ H ∧ H ≤ 4096 ∧ W * H ≤ 4194304) (by omega)).symm))) $ Sub.nil _) rfl rfl
    try simp only [Ya, Yb, Yc, Yd, Ye, Yf] at g15
    refine Kq rfl $ Kq rfl $ Kr rfl $ Km rfl $ Kq rfl $ Kq rfl $ Kq rfl $ Kq rfl $ Kr rfl $ Kn rfl $ E.nil $ X.join0 (Sub.cons (look_eq rfl (congrArg Value.bool (by exact (decide_eq_false (p := 1 ≤ W ∧ W ≤ 4096 ∧ 1 ≤ H ∧ H ≤ 4096 ∧ W * H ≤ 4194304) (by omega)).symm))) $ Sub.nil _) rfl rfl
   try simp only [Ya, Yb, Yc, Yd, Ye, Yf] at g11
   refine Kq rfl $ Kq rfl $ Kr rfl $ Km rfl $ Kq rfl $ Kq rfl $ Kr rfl $ Km rfl $ Kq rfl $ Kq rfl $ Kq rfl $ Kq rfl $ Kr rfl $ Kn rfl $ E.nil $ X.join0 (Sub.cons (look_eq rfl (congrArg Value.bool (by exact (decide_eq_false (p := 1 ≤ W ∧ W ≤ 4096 ∧ 1 ≤ H ∧ H ≤ 4096 ∧ W * H ≤ 4194304) (by omega)).symm))) $ Sub.nil _) rfl rfl
  try simp only [Ya, Yb, Yc, Yd, Ye, Yf] at g7
  refine Kq rfl $ Kq rfl $ Kr rfl $ Km rfl $ Kq rfl $ Kq rfl $ Kr rfl $ Km rfl $ Kq rfl $ Kq rfl $ Kr rfl $ Km rfl $ Kq rfl $ Kq rfl $ Kq rfl $ Kq rfl $ Kr rfl $ Kn rfl $ E.nil $ X.join0 (Sub.cons (look_eq rfl (congrArg Value.bool (by exact (decide_eq_false (p := 1 ≤ W ∧ W ≤ 4096 ∧ 1 ≤ H ∧ H ≤ 4096 ∧ W * H ≤ 4194304) (by omega)).symm))) $ Sub.nil _) rfl rfl
 refine C.ret $ ret1 rfl rfl ?_
 exact ⟨rfl, hM.toExt⟩
theorem CheckImage_ret (W H : Int) (vp : Value) (pix : List UInt8) (w : World) (hp : RdL u8 w vp pix) :
  Ret Tryz.prog 15 #[imv W H vp] w fun v w' => v = i64 (if vld W H pix.length then 0 else 1) ∧ Ext w w' := by
 have hM := M.start w
 refine enter Tryz.func15 rfl (by kernel_rfl) Tryz.ntmps15 rfl $ Kb $ E.boxM hM rfl rfl rfl ?_
 intro b1 w0 hM
 refine Kc rfl $ C.seq $ C.cut0 [] rfl [(19, .bool (decide (¬ vld W H pix.length)))] (fun w' => M w (Nn) w' []) ?_ ?_
 ·
  refine C.region $ E.fld (o := 0) (sz := 0) rfl U24 rfl rfl (by kernel_rfl) rfl $ E.load rfl U3 rfl (hM.bcell 0 rfl rfl) rfl $ E.fld (o := 1) (sz := 0) rfl U24 rfl rfl (by kernel_rfl) rfl $ E.load rfl U3 rfl (hM.bcell 0 rfl rfl) rfl $ E.call rfl rfl (possible_ret W H _) ?_
  rintro _ w1 ⟨rfl, x1⟩
  have hM := hM.ext x1
  refine E.not rfl rfl $ Km rfl $ E.split 9 rfl (fun g9 => ?_) (fun g9 => ?_)
  ·
   try simp only [Ya, Yb, Yc, Yd, Ye, Yf] at g9
   have g9' : ¬ (1 ≤ W ∧ W ≤ 4096 ∧ 1 ≤ H ∧ H ≤ 4096 ∧ W * H ≤ 4194304) := by simpa using g9
   refine Kq rfl $ Kq rfl $ Kq rfl $ Kq rfl $ Kq rfl $ Kq rfl $ Kq rfl $ Kq rfl $ Kq rfl $ Kr rfl $ E.nil $ X.join0  (Sub.cons (look_eq rfl (congrArg Value.bool (decide_eq_true (p := ¬ vld W H pix.length) (fun h => g9' ⟨h.1, h.2.1, h.2.2.1, h.2.2.2.1, h.2.2.2.2.1⟩)).symm)) $ Sub.nil _) rfl (hM.pick [] (by decide))
  try simp only [Ya, Yb, Yc, Yd, Ye, Yf] at g9
  have g9' : 1 ≤ W ∧ W ≤ 4096 ∧ 1 ≤ H ∧ H ≤ 4096 ∧ W * H ≤ 4194304 := by simpa using g9
  have hms := mul_small (a := W) (b := H) (by omega) (by omega) (by omega) (by omega)
  refine Ko rfl $ E.fld (o := 2) (sz := 0) rfl U24 rfl rfl (by kernel_rfl) rfl $ Ko rfl $ E.load rfl U22 rfl (hM.bcell 0 rfl rfl) rfl $ Ko rfl $ E.lenv rfl (Rd.shape (hM.arg0 hp)) U22 rfl $ Ko rfl $ E.fld (o := 0) (sz := 0) rfl U24 rfl rfl (by kernel_rfl) rfl $ Ko rfl $ E.load rfl U3 rfl (hM.bcell 0 rfl rfl) rfl $ Ko rfl $ E.fld (o := 1) (sz := 0) rfl U24 rfl rfl (by kernel_rfl) rfl $ Ko rfl $ E.load rfl U3 rfl (hM.bcell 0 rfl rfl) rfl $ Ko rfl $ E.mul rfl rfl (by omega) rfl $ Ko rfl $ Kp rfl $ Kr rfl $ E.nil $ X.join0  (Sub.cons (look_eq rfl (congrArg Value.bool (decide_eq_decide.2 ⟨fun h k => h k.2.2.2.2.2, fun h k => h ⟨g9'.1, g9'.2.1, g9'.2.2.1, g9'.2.2.2.1, g9'.2.2.2.2, k⟩⟩))) $ Sub.nil _) rfl (hM.pick [] (by decide))
 rintro  w2 hM
 refine C.cond' rfl (fun hC0 => ?_) (fun hC0 => ?_)
 ·
  refine Kb $ Kc rfl $ C.ret $ X.retT $ ret1 rfl rfl ?_
  exact ⟨by rw [if_neg hC0], hM.toExt⟩
 refine Kk $ Kb $ Kc rfl $ C.ret $ ret1 rfl rfl ?_
 exact ⟨by rw [if_pos (Decidable.not_not.1 hC0)], hM.toExt⟩
theorem Clone8_ret (p : Value) (l : List UInt8) (w : World) (hp : RdL u8 w p l) (h1 : 1 ≤ l.length) (hl : l.length ≤ 1000000000) :
  Ret Tryz.prog 42 #[p] w fun v w' => M w Nn w' [Rg.sl u8 5 v l] := by
 have hM := M.start w
 refine enter Tryz.func42 rfl (by kernel_rfl) Tryz.ntmps42 rfl $ Kb $ Kc rfl $ C.seq $ Kb $ Km rfl $ E.eqnilS rfl (by obtain ⟨a, cap, h⟩ := Rd.shape hp; exact ⟨_, _, _, h⟩) rfl U22 rfl $ Ka $ C.cond' rfl (fun hC0 => ?_) (fun hC0 => ?_)
 ·
  obtain ⟨a, cap, rfl, hc, hm, hl2, hsome, hat⟩ := hp
  cases a with
  | none => obtain ⟨b, off, h⟩ := hsome (by rw [List.length_map]; omega); cases h
  | some a => cases hC0
 refine Kk $ Kb $ E.mkM (enc := u8) (e := 5) [] hM rfl (fun _ => by kernel_rfl) rfl rfl rfl ?_
 intro v5 w0 hM
 refine Km rfl $ E.appendM 0 hM rfl rfl rfl U22 elem_Tuint8 (hM.arg0 hp) (fun _ => rfl) (by simp; omega) (by simp; omega) rfl ?_
 intro v7 w1 hM
 refine Kc rfl $ C.ret $ ret1 rfl rfl ?_
 exact hM
set_option maxHeartbeats 1000000 in
theorem pack_ret (p : Value) (row : List UInt8) (d : Nat) (w : World) (hp : RdL u8 w p row) (h1 : 1 ≤ row.length) (hl : row.length ≤ 1000000) :
  Ret Tryz.prog 16 #[p, i64 d] w fun v w' => M w Nn w' [Rg.sl u8 5 v (pck row d)] := by
 have hM := M.start w
 refine enter Tryz.func16 rfl (by kernel_rfl) Tryz.ntmps16 rfl $ Kb $ Kc rfl $ C.seq $ Kb $ Km rfl $ Kp rfl $ Ka $ C.cond' rfl (fun hC0 => ?_) (fun hC0 => ?_)
 ·
  refine Kb $ Km rfl $ E.call rfl rfl (Clone8_ret p row _ (hM.arg0 hp) h1 (by omega)) ?_
  rintro v11 w0 m
  have hM := hM.call m
  refine Kc rfl $ C.ret $ X.retT $ ret1 rfl rfl ?_
  exact by rw [pck, if_pos (by omega)]; exact hM
 refine Kk $ Kb $ Km rfl $ E.lenv rfl (Rd.shape (hM.arg0 hp)) U22 rfl $ E.addN (a := row.length) (b := 7) rfl rfl (by omega) rfl $ E.quo (c := ((row.length + 7) / 8 : Nat)) rfl rfl (by omega) ((IntWalk.i64_quo _ _ (by omega)).trans (by omega)) rfl $ E.makeM (by_ := 1) (enc := u8) 0 hM rfl U22 (by kernel_rfl) rfl (by omega) (by omega) rfl ?_
 intro v16 w1 hM
 rw [← pkx_zero] at hM
 refine Kc rfl $ C.seq $ Kb $ Km rfl $ E.lenv rfl (Rd.shape (hM.arg0 hp)) U22 rfl $ Km rfl $ Ka $ C.block $ C.loop1 [(5, _), (17, _), (18, _)] rfl (fun (x : Nat) => [(19, i64 x)]) (fun (x : Nat) w' => M w (Nn) w' [Rg.sl u8 5 v16 (pkx row x)] ∧ x ≤ row.length) (fun (x : Nat) => row.length - x) 0 ?_ ?_ ?_
 · exact S1 rfl
 · exact ⟨hM, Nat.zero_le _⟩
 rintro x w2 ⟨hM, hx⟩
 refine Kb $ Kp rfl $ Ka $ C.seq $ C.cond' rfl (fun hC1 => ?_) (fun hC1 => ?_)
 ·
  have hx' : x < row.length := by omega
  have h8 : x / 8 < (row.length + 7) / 8 := by omega
  have hpl := pkx_len row x
  have hm8 : min 8 (x - 8 * (x / 8)) = x % 8 := by omega
  refine Kk $ C.cut0 [(5, _), (17, _), (18, _), (19, _)] rfl [] (fun w' => M w (Nn) w' [Rg.sl u8 5 v16 (pkx row (x + 1))]) ?_ ?_
  ·
   refine C.block $ Kb $ Km rfl $ E.get (k := x) rfl rfl (hM.arg0 hp) rfl (by omega) U22 (by kernel_rfl) U5 rfl rfl rfl ?_
   rw [u8c, at_get hx']
   refine Kn rfl $ Kd rfl $ Km rfl $ Kp rfl $ Ka $ C.cond' rfl (fun hC2 => ?_) (fun hC2 => ?_)
   ·
    have hax : at_ row (8 * (x / 8) + x % 8) ≠ 0 := by rw [show 8 * (x / 8) + x % 8 = x by omega]; omega
    refine C.drawnT 10 (by kernel_rfl) (by kernel_rfl) fun wh3 hwh3 => ?_
    have hM := hM.ext hwh3
    refine S.mv rfl rfl $ S.mv rfl rfl $ S.quo rfl rfl (by omega) (IntWalk.i64_quo _ _ (by omega)) rfl $ S.idx1 (k := x / 8) rfl rfl (hM.sl 0 rfl) (by omega) (by omega) U22 (by kernel_rfl) rfl $ S.load rfl U5 rfl ((hM.sl 0 rfl).cellA rfl (by omega)) rfl ?_
    rw [pkx_get h8, hm8, u8c]
    refine S.mv rfl rfl $ S.rem rfl rfl (by omega) (IntWalk.rem_in _ _ (by omega)) rfl $ S.shr rfl rfl (by omega) (shr8 x) rfl $ S.binw rfl rfl rfl (congrArg _ (pb_or (Nat.mod_lt _ (by decide)) hax)) rfl $ S.idx1 (k := x / 8) rfl rfl (hM.sl 0 rfl) (by omega) (by omega) U22 (by kernel_rfl) rfl $ S.nil $ E.storeL 0 (UInt8.ofNat (pb row (x / 8) (x % 8 + 1))) hM rfl rfl rfl (by kernel_rfl) rfl rfl (by omega) ?_
    intro w4 hM
    refine E.nil $ X.outN $ ?_
    rw [pkx_step hx'] at hM
    refine X.join0  (Sub.nil _) rfl hM
   refine C.skip $ X.outN $ X.join0  (Sub.nil _) rfl (by rw [pkx_skip hx' (by omega)]; exact hM)
  rintro  w5 hM
  refine C.region $ E.add rfl rfl (by omega) rfl $ Km rfl $ E.nil $ X.again1 (x + 1) (S1 rfl) rfl ⟨hM, by omega⟩ (by omega)
 obtain rfl : x = row.length := by omega
 refine Kx $ Kb $ Km rfl $ Kc rfl $ C.ret $ ret1 rfl rfl ?_
 exact by rw [pck, if_neg (by omega)]; exact hM
theorem weight_ret (p : Value) (l : List UInt8) (w : World) (hp : RdL u8 w p l) (hl : l.length ≤ 1000000) :
  Ret Tryz.prog 43 #[p] w fun v w' => v = i64 (wgt l : Int) ∧ Ext w w' := by
 have hM := M.start w
 refine enter Tryz.func43 rfl (by kernel_rfl) Tryz.ntmps43 rfl $ Kb $ Kd rfl $ Kc rfl $ C.seq $ Kb $ Km rfl $ E.lenv rfl (Rd.shape (hM.arg0 hp)) U22 rfl $ Km rfl $ Ka $ C.block $ C.loop1 [(6, _), (7, _)] rfl (fun (k : Nat) => [(3, i64 (wgt (l.take k) : Int)), (8, i64 k)]) (fun (k : Nat) w' => M w (Nn) w' [] ∧ k ≤ l.length) (fun (k : Nat) => l.length - k) 0 ?_ ?_ ?_
 · exact Sub.cons rfl $ S1 rfl
 · exact ⟨hM, Nat.zero_le _⟩
 rintro k w0 ⟨hM, hk⟩
 refine Kb $ Kp rfl $ Ka $ C.seq $ C.cond' rfl (fun hC0 => ?_) (fun hC0 => ?_)
 ·
  have hk' : k < l.length := by omega
  have hwl := wgt_le (l.take k)
  rw [List.length_take] at hwl
  have hws := wgt_succ hk'
  have hlt := UInt8.toNat_lt l[k]
  refine Kk $ C.seq $ C.block $ Kb $ E.get (k := k) rfl rfl (hM.arg0 hp) rfl (by omega) U22 (by kernel_rfl) U5 rfl rfl rfl ?_
  rw [u8c]
  refine Kc rfl $ C.region $ Kf rfl $ E.conv rfl U5 U3 (IntWalk.i64_in _ (by omega)) rfl $ Km rfl $ E.conv rfl U5 U3 (IntWalk.i64_in _ (by omega)) rfl $ E.sub' rfl rfl (by omega) rfl $ E.min2 rfl rfl rfl $ E.add rfl rfl (by omega) rfl $ Kn rfl $ E.nil $ X.outN $ X.next $ C.region $ E.add rfl rfl (by omega) rfl $ Km rfl $ E.nil $ X.again1 (k + 1) (Sub.cons (look_val rfl (by rw [hws]; omega)) $ S1 rfl) rfl ⟨hM, by omega⟩ (by omega)
 obtain rfl : k = l.length := by omega
 rw [List.take_length]
 refine Kx $ Kb $ Km rfl $ Kc rfl $ C.ret $ ret1 rfl rfl ?_
 exact ⟨rfl, hM.toExt⟩
set_option maxHeartbeats 1000000 in
theorem appendBest_ret (p q r : Value) (data row prior : List UInt8) (w : World) (hs : Sep w [Rg.sl u8 5 p data]) (hq : RdL u8 w q row) (hr : RdL u8 w r prior) (oq : Off (fpU [Rg.sl u8 5 p data]) q row) (or_ : Off (fpU [Rg.sl u8 5 p data]) r prior) (hpl : prior = [] ∨ prior.length = row.length) (hl : row.length ≤ 1000000) (hdl : data.length ≤ 100000000) :
  Ret Tryz.prog 17 #[p, q, r] w fun v w' => M w (fpU [Rg.sl u8 5 p data]) w' [Rg.sl u8 5 v (data ++ bst row prior)] := by
 have hM := M.startS hs
 refine enter Tryz.func17 rfl (by kernel_rfl) Tryz.ntmps17 rfl $ Kb $ Kd rfl $ Kn rfl $ Kd rfl $ Kc rfl $ C.seq $ Kb $ Km rfl $ Ka $ C.block $ ?_
 have hM := hM.nil u8 5
 try dsimp only [List.nil_append, List.cons_append] at hM
 refine C.loop2 [(0, _), (1, _), (2, _)] rfl (fun (k : Nat) (vc : Value) => [(7, i64 (bK row prior k : Int)), (8, i64 (lK row prior k)), (9, vc), (14, i64 k)]) (fun (k : Nat) (vc : Value) w' => M w (fpU [Rg.sl u8 5 p data]) w' [Rg.sl u8 5 p data, Rg.sl u8 5 vc (cK row prior k)] ∧ k ≤ 5) (fun (k : Nat) (vc : Value) => 5 - k) 0 nilS ?_ ?_ ?_
 · exact Sub.cons rfl $ Sub.cons rfl $ Sub.cons rfl $ S1 rfl
 · exact ⟨hM, by omega⟩
 rintro k vc w0 ⟨hM, hk⟩
 refine Kb $ Kp rfl $ Ka $ C.seq $ C.cond' rfl (fun hC0 => ?_) (fun hC0 => ?_)
 ·
  have hk' : k < 5 := by omega
  have hE : apE (k : Int) row prior = 0 := by
   rw [apE, if_neg (by omega), if_neg (fun h => h.2 (hpl.resolve_left h.1))]
  have hO : apO fil (k : Int) row prior = fil k row prior := by rw [apO, if_pos hE, Int.toNat_natCast]
  have hfl := fil_len k row prior
  refine Kk $ C.cut1 [(0, _), (1, _), (2, _), (14, _)] rfl (fun (vc2 : Value) => [(7, i64 (bK row prior (k + 1) : Int)), (8, i64 (lK row prior (k + 1))), (9, vc2)]) (fun (vc2 : Value) w' => M w (fpU [Rg.sl u8 5 p data]) w' [Rg.sl u8 5 p data, Rg.sl u8 5 vc2 (cK row prior (k + 1))]) ?_ ?_
  ·
   refine C.block $ Kb $ Km rfl $ Kd rfl $ Kf rfl $ Km rfl $ E.call rfl rfl (Filter_ret k q r row prior _ (hM.arg hq oq) (hM.arg hr or_) hl) ?_
   rintro _ w1 ⟨vo, rfl, m⟩
   rw [hO] at m
   have hM := hM.call m
   refine Km rfl $ E.ext rfl rfl rfl $ E.ext rfl rfl rfl $ Kn rfl $ Kd rfl $ Km rfl $ E.call rfl rfl (weight_ret vo (fil k row prior) _ (hM.sl 2 rfl) (by omega)) ?_
   rintro _ w2 ⟨rfl, x2⟩
   have hM := hM.ext x2
   refine Kc rfl $ C.chainE [(0, _), (1, _), (2, _), (7, _), (8, _), (9, _), (10, _), (11, _), (13, _), (14, _)] rfl [(32, .bool (decide (lK row prior k < 0 ∨ (wgt (fil k row prior) : Int) < lK row prior k)))] ?_ ?_
   ·
    refine C.region $ Km rfl $ Kp rfl $ Km rfl $ E.split 28 rfl (fun g28 => ?_) (fun g28 => ?_)
    ·
     try simp only [Ya, Yb, Yc, Yd, Ye, Yf] at g28
     refine Kq rfl $ Kq rfl $ Kq rfl $ Kr rfl $ E.nil $ X.join0 (Sub.cons (by exact leaf_t (by omega)) $ Sub.nil _) rfl rfl
    try simp only [Ya, Yb, Yc, Yd, Ye, Yf] at g28
    refine Ko rfl $ Km rfl $ Ko rfl $ Km rfl $ Ko rfl $ Kp rfl $ Kr rfl $ E.nil $ X.join0 (Sub.cons (by exact leaf_d (by omega)) $ Sub.nil _) rfl rfl
   refine C.cond' rfl (fun hC1 => ?_) (fun hC1 => ?_)
   ·
    refine C.region $ Kf rfl $ Km rfl $ Kn rfl $ Kn rfl $ Kn rfl $ E.nil $ X.outN $ ?_
    have hbt := bK_t hC1
    refine X.join1 vo (Sub.cons (look_val rfl (by rw [bK_s, hbt])) $ Sub.cons (look_val rfl (by rw [lK_s, hbt])) $ S1 rfl) rfl (by rw [cK_s, hbt]; exact hM.pick [0, 2] (by decide))
   refine C.skip $ X.outN $ ?_
   obtain ⟨e1, e2, e3⟩ := bK_f hC1
   refine X.join1 vc (Sub.cons (look_val rfl (by rw [e1])) $ Sub.cons (look_val rfl e2.symm) $ S1 rfl) rfl (by rw [e3]; exact hM.pick [0, 1] (by decide))
  rintro vc2 w3 hM
  refine C.region $ E.add rfl rfl (by omega) rfl $ Km rfl $ E.nil $ X.again2 (k + 1) vc2 (Sub.cons rfl $ Sub.cons rfl $ Sub.cons rfl $ S1 rfl) rfl ⟨hM, by omega⟩ (by omega)
 obtain rfl : k = 5 := by omega
 have hbl := bsk_le row prior 4
 have hfl := fil_len (bsk row prior 4) row prior
 rw [show bK row prior 5 = bsk row prior 4 from rfl]
 rw [show cK row prior 5 = fil (bsk row prior 4) row prior from rfl] at hM
 refine Kx $ Kb $ Kf rfl $ E.conv rfl U3 U5 (c := ((UInt8.ofNat (bsk row prior 4)).toNat : Int)) (wrap8 _) rfl $ E.pushM 0 (UInt8.ofNat (bsk row prior 4)) hM rfl rfl rfl U22 elem_Tuint8 rfl (by omega) (by omega) (by simp) rfl rfl ?_
 intro v41 u41 w4 hM
 refine Km rfl $ E.appendM 0 hM rfl rfl rfl U22 elem_Tuint8 (hM.sl 1 rfl) (fun _ => rfl) (by rw [List.length_append, List.length_singleton]; omega) (by rw [List.length_append, List.length_singleton]; omega) rfl ?_
 intro v43 w5 hM
 refine Kc rfl $ C.ret $ ret1 rfl rfl ?_
 exact by rw [bst, List.append_cons]; exact hM.pick [0] (by decide)
set_option maxHeartbeats 1000000 in
theorem appendPixels_ret (p q : Value) (pix row : List UInt8) (wd d : Nat) (w : World) (hs : Sep w [Rg.sl u8 5 p pix]) (hq : RdL u8 w q row) (oq : Off (fpU [Rg.sl u8 5 p pix]) q row) (hd : d = 1 ∨ d = 2 ∨ d = 4 ∨ d = 8) (hw : wd ≤ 4096) (hl : (wd * d + 7) / 8 ≤ row.length) (hpl : pix.length ≤ 100000000) :
  Ret Tryz.prog 30 #[p, q, i64 wd, i64 d] w fun v w' => M w (fpU [Rg.sl u8 5 p pix]) w' [Rg.sl u8 5 v (pix ++ vls row wd d)] := by
 have hM := M.startS hs
 refine enter Tryz.func30 rfl (by kernel_rfl) Tryz.ntmps30 rfl $ Kb $ Kd rfl $ Km rfl $ E.shl (c := ((2 ^ d : Nat) : Int)) rfl rfl (by omega) (by rcases hd with rfl | rfl | rfl | rfl <;> decide) rfl ?_
 have h2d : 2 ≤ 2 ^ d ∧ 2 ^ d ≤ 256 := by rcases hd with rfl | rfl | rfl | rfl <;> decide
 obtain ⟨W, hW⟩ : ∃ W, W = wd * d := ⟨_, rfl⟩
 rw [← hW] at hl
 refine E.subN (a := 2 ^ d) (b := 1) rfl rfl (by omega) rfl $ Kc rfl $ C.seq $ Kb $ Kf rfl $ Ka $ C.block $ C.loop2 [(1, _), (3, _), (9, _), (16, _)] rfl (fun (x : Nat) (vp : Value) => [(0, vp), (17, i64 x)]) (fun (x : Nat) (vp : Value) w' => M w (fpU [Rg.sl u8 5 p pix]) w' [Rg.sl u8 5 vp (pix ++ tab x (vlk row d))] ∧ x ≤ wd) (fun (x : Nat) (vp : Value) => wd - x) 0 p ?_ ?_ ?_
 · exact Sub.cons rfl $ S1 rfl
 · exact ⟨by rw [tab_zero, List.append_nil]; exact hM, Nat.zero_le _⟩
 rintro x vp w0 ⟨hM, hx⟩
 refine Kb $ Kp rfl $ Ka $ C.seq $ C.cond' rfl (fun hC0 => ?_) (fun hC0 => ?_)
 ·
  have hx' : x < wd := by omega
  have hxd : x * d + d ≤ W ∧ x * d % 8 + d ≤ 8 ∧ x * d ≤ 32768 ∧ 1 ≤ d ∧ d ≤ 8 := by
   rw [hW]
   rcases hd with rfl | rfl | rfl | rfl <;> omega
  have hvk : vlk row d x = UInt8.ofNat (255 * (at_ row (x * d / 8) / 2 ^ (8 - d - x * d % 8) % 2 ^ d) / (2 ^ d - 1)) := rfl
  have hln : (pix ++ tab x (vlk row d)).length = pix.length + x := by rw [List.length_append, tab_len]
  refine Kk $ C.seq $ C.block $ Kb $ Km rfl $ Kd rfl $ Kf rfl $ E.mulN (a := x) (b := d) rfl rfl (by omega) rfl ?_
  obtain ⟨a, ha⟩ : ∃ a, a = x * d := ⟨_, rfl⟩
  rw [← ha] at hxd hvk ⊢
  refine Kd rfl $ Kf rfl $ E.quo rfl rfl (by omega) (IntWalk.i64_quo _ _ (by omega)) rfl $ E.get (k := a / 8) rfl rfl (hM.arg hq oq) (by omega) (by omega) U22 (by kernel_rfl) U5 rfl rfl rfl ?_
  rw [u8c, at_get (show a / 8 < row.length by omega)]
  have hal := at_le row (a / 8)
  refine E.conv rfl U5 U3 (IntWalk.i64_in _ (by omega)) rfl $ Km rfl $ E.subN (a := 8) (b := d) rfl rfl (by omega) rfl $ Km rfl $ E.rem rfl rfl (by omega) (remN (a := a) (b := 8)) rfl $ E.subN (a := 8 - d) (b := a % 8) rfl rfl (by omega) rfl $ E.shr rfl rfl (by omega) (shr_i64 (v := at_ row (a / 8)) (k := 8 - d - a % 8) (by omega)) rfl ?_
  obtain ⟨u, hu⟩ : ∃ u, u = at_ row (a / 8) / 2 ^ (8 - d - a % 8) := ⟨_, rfl⟩
  have hul : u ≤ 255 := by rw [hu]; exact Nat.le_trans (Nat.div_le_self _ _) hal
  rw [← hu] at hvk ⊢
  refine Km rfl $ E.binw rfl rfl rfl (congrArg _ (and_mask (v := u) (d := d) hul (by omega))) rfl ?_
  obtain ⟨z, hz⟩ : ∃ z, z = u % 2 ^ d := ⟨_, rfl⟩
  have hzl : z ≤ 255 := by rw [hz]; exact Nat.le_trans (Nat.mod_le _ _) hul
  rw [← hz] at hvk ⊢
  refine Kc rfl $ C.region $ Kf rfl $ E.mulN (a := 255) (b := z) rfl rfl (by omega) rfl $ Km rfl $ E.quo rfl rfl (by omega) (IntWalk.i64_quo _ _ (by omega)) rfl $ E.conv rfl U3 U5 (c := ((vlk row d x).toNat : Int)) (by rw [hvk, ← Int.natCast_ediv]; exact wrap8 _) rfl $ E.pushM 0 (vlk row d x) hM rfl rfl rfl U22 elem_Tuint8 rfl (by omega) (by omega) (by simp) rfl rfl ?_
  intro v44 u44 w1 hM
  refine Kn rfl $ E.nil $ X.outN $ X.next $ C.region $ E.add rfl rfl (by omega) rfl $ Km rfl $ E.nil $ ?_
  rw [List.append_assoc, ← tab_succ] at hM
  refine X.again2 (x + 1) _ (Sub.cons rfl $ S1 rfl) rfl ⟨hM.pick [0] (by decide), by omega⟩ (by omega)
 obtain rfl : x = wd := by omega
 refine Kx $ Kb $ Km rfl $ Kc rfl $ C.ret $ ret1 rfl rfl ?_
 exact hM
end Go.Proofs.YtajklleiifhipaaGreatDoor
namespace Go.Proofs.YtajklleiifhipaaGreatDoor
open Go.RowKit Sym
open Pg
namespace Sym
section
variable {P : Program} {ops : Array Oper} {Q : Exit → Act → World → Prop} {s : St} {env : Env} {w0 w : World} {S : Nat → Prop} {rs : List Rg} {rest : List Oper} {d : Nat} {ty : TypeId} {pos : String} {aft : Array Edge}
theorem flat_drop {α : Type} {enc : α → List Value} {sz : Nat} : ∀ (l : List α) (a : Nat), (∀ x ∈ l, (enc x).length = sz) → (l.flatMap enc).drop (a * sz) = (l.drop a).flatMap enc
 | l, 0, _ => by simp
 | [], a + 1, _ => by simp
 | x :: l, a + 1, h => by
  rw [List.flatMap_cons, List.drop_succ_cons, ← flat_drop l a (fun y hy => h y (by simp [hy])), Nat.add_mul, Nat.one_mul, Nat.add_comm, ← List.drop_drop]
  congr 1
  rw [← h x (by simp), List.drop_left]
theorem RdF.partF {α : Type} {enc : α → List Value} {sz : Nat} {v v' : Value} {l : List α} {a : Nat} (h : RdF enc sz w v l) (p : Part sz v v' a l.length) : RdF enc sz w v' (l.drop a) := by
 refine ⟨fun x hx => h.1 x (List.mem_of_mem_drop hx), ?_⟩
 have h2 := Rd.ofPart h.2 p
 have hl : (l.drop a).length = l.length - a := List.length_drop
 rw [flat_drop l a h.1, List.take_of_length_le] at h2
 · rw [hl]; exact h2
 have : ∀ m : List α, (∀ x ∈ m, (enc x).length = sz) → (m.flatMap enc).length = m.length * sz := fun m => by
  induction m with
  | nil => intro _; simp
  | cons y m ih => intro hm; rw [List.flatMap_cons, List.length_append, hm y (by simp), ih (fun z hz => hm z (by simp [hz])), List.length_cons, Nat.add_mul, Nat.one_mul, Nat.add_comm]
 rw [this _ (fun x hx => h.1 x (List.mem_of_mem_drop hx)), hl]; exact Nat.le_refl _
theorem E.slcF {α : Type} {enc : α → List Value} {sz : Nat} {l : List α} {t e : TypeId} {x : Operand} {lo hi : Option Operand} {v : Value} {k k' : IntKind} (a b : Nat) (hx : ev env x = some v)
    (hlo : lo.map (ev env) = some (some (.int k (a : Int))) ∨ (lo = none ∧ a = 0)) (hhi : hi.map (ev env) = some (some (.int k' (b : Int))) ∨ (hi = none ∧ b = l.length)) (hR : RdF enc sz w v l)
    (ht : P.underlying t = some (.slice e)) (hs : (P.info? e).map (·.size) = some sz) (hl : a ≤ b) (hh : b ≤ l.length) (hd : Nat.blt d s.n = true)
    (hK : ∀ v', Part sz v v' a b → wpE P ops Q s rest ((d, v') :: env) w) : wpE P ops Q s (⟨some d, .slice t x lo hi none, ty, pos, aft, none⟩ :: rest) env w := by
  obtain ⟨c, cap, hv, hc, _⟩ := hR.2
  subst hv
  have hp : Part sz (.slice c l.length cap) (.slice (if cap = a then c else c.map (·.add (a * sz))) (b - a) (cap - a)) a b := ⟨c, l.length, cap, rfl, hl, hh, rfl⟩
  refine E.op (fun a' ha => ?_) hd (hK _ hp)
  have h1 : lo.map a'.eval = some (.int k (a : Int)) ∨ (lo.map a'.eval = none ∧ a = 0) := by
    rcases hlo with hlo | ⟨rfl, h0⟩
    · cases lo with
      | none => simp at hlo
      | some y => simp at hlo; left; simp [ha.ev hlo]
    right; exact ⟨rfl, h0⟩
  have h2 : hi.map a'.eval = some (.int k' (b : Int)) ∨ (hi.map a'.eval = none ∧ b = l.length) := by
    rcases hhi with hhi | ⟨rfl, h0⟩
    · cases hi with
      | none => simp at hhi
      | some y => simp at hhi; left; simp [ha.ev hhi]
    right; exact ⟨rfl, h0⟩
  have := run_slice (P := P) (w := w) (a := c) ht hs h1 h2 hl hh hc
  simp [execOp, ha.ev hx, this]
theorem ret4 {fn : Func} {n t u r q : Nat} {v1 v2 v3 v4 : Value} {Φ : Value → World → Prop} (hres : fn.results = #[.tmp t, .tmp u, .tmp r, .tmp q]) (h1 : look env t = some v1) (h2 : look env u = some v2) (h3 : look env r = some v3) (h4 : look env q = some v4) (h : Φ (.tuple #[v1, v2, v3, v4]) w) : wpX .ret (bodyPost P fn (RetPost Φ)) ⟨n, []⟩ env w :=
 retG (fun a ha => by simp [results, hres, ha.get t v1 h1, ha.get u v2 h2, ha.get r v3 h3, ha.get q v4 h4]) h
end
end Sym
theorem Cks.tail {w : World} {p v' : Value} {h0 : Hd} {hr : List Hd} {c : Ck} {r : List Ck} (h : Cks w p (h0 :: hr) (c :: r)) (q : Part 2 p v' 1 (zc (c :: r) (h0 :: hr)).length) : Cks w v' hr r := by
 refine ⟨h.row.partF q, ?_⟩
 have := h.bag
 refine ⟨by have := this.1; simp at this ⊢; exact this, fun i x l hx hl => this.2 (i + 1) x l (by simpa using hx) (by simpa using hl)⟩
namespace Pg
theorem dat_app (a b : List Ck) : dtc (a ++ b) = dtc a ++ dtc b := by
 induction a with
 | nil => rfl
 | cons c a ih => rw [List.cons_append, dtc, dtc, ih]; split <;> simp
theorem any_app (a b : List Ck) : anyD (a ++ b) = (anyD a || anyD b) := by
 induction a with
 | nil => rfl
 | cons c a ih => rw [List.cons_append, anyD, anyD, ih]; split <;> simp
theorem dat_t {r : List Ck} {k : Nat} (h : k < r.length) (hc : (r[k]).1 = tD) : dtc (r.take (k + 1)) = dtc (r.take k) ++ (r[k]).2 := by
 rw [← List.take_append_getElem h, dat_app, dtc, if_pos hc]; simp [dtc]
theorem dat_f {r : List Ck} {k : Nat} (h : k < r.length) (hc : (r[k]).1 ≠ tD) : dtc (r.take (k + 1)) = dtc (r.take k) := by
 rw [← List.take_append_getElem h, dat_app, dtc, if_neg hc]; simp [dtc]
theorem any_t {r : List Ck} {k : Nat} (h : k < r.length) (hc : (r[k]).1 = tD) : anyD (r.take (k + 1)) = true := by
 rw [← List.take_append_getElem h, any_app, anyD, if_pos hc]; simp
theorem any_f {r : List Ck} {k : Nat} (h : k < r.length) (hc : (r[k]).1 ≠ tD) : anyD (r.take (k + 1)) = anyD (r.take k) := by
 rw [← List.take_append_getElem h, any_app, anyD, if_neg hc]; simp [anyD]
def Fst (r : List Ck) (k st : Nat) (la : Int) : Prop := fmd 0 r = fmd st (r.drop k) ∧ -1 ≤ la ∧ la ≤ k ∧ ((st = 0 ∧ anyD (r.take k) = false) ∨ (st = 1 ∧ anyD (r.take k) = true ∧ la = (k : Int) - 1) ∨ (st = 2 ∧ anyD (r.take k) = true ∧ la < (k : Int) - 1))
theorem Fst.zero (r : List Ck) : Fst r 0 0 0 := ⟨rfl, by omega, by omega, .inl ⟨rfl, rfl⟩⟩
theorem Fst.head {r : List Ck} {k st : Nat} {la : Int} (h : Fst r k st la) (hk : k < r.length) (hc : (r[k]).1 = tH) : fmd 0 r = false := by
 rw [h.1, List.drop_eq_getElem_cons hk, fmd, if_pos hc]
theorem Fst.bad {r : List Ck} {k st : Nat} {la : Int} (h : Fst r k st la) (hk : k < r.length) (hc : (r[k]).1 = tD) (h2 : anyD (r.take k) = true ∧ la ≠ (k : Int) - 1) : fmd 0 r = false := by
 have hne : (r[k]).1 ≠ tH := fun e => by rw [e] at hc; revert hc; decide
 rcases h.2.2.2 with ⟨_, h0⟩ | ⟨_, _, h0⟩ | ⟨h0, _⟩
 · rw [h0] at h2; cases h2.1
 · exact (h2.2 h0).elim
 rw [h.1, List.drop_eq_getElem_cons hk, fmd, if_neg hne, if_pos hc, if_pos h0]
theorem Fst.data {r : List Ck} {k st : Nat} {la : Int} (h : Fst r k st la) (hk : k < r.length) (hc : (r[k]).1 = tD) (h2 : ¬ (anyD (r.take k) = true ∧ la ≠ (k : Int) - 1)) : Fst r (k + 1) 1 k := by
 have hne : (r[k]).1 ≠ tH := fun e => by rw [e] at hc; revert hc; decide
 have h3 : st ≠ 2 := fun e => by
  rcases h.2.2.2 with ⟨h0, _⟩ | ⟨h0, _⟩ | ⟨_, h0, h1⟩
  · omega
  · omega
  exact h2 ⟨h0, by omega⟩
 refine ⟨?_, by omega, by omega, .inr (.inl ⟨rfl, any_t hk hc, by omega⟩)⟩
 rw [h.1, List.drop_eq_getElem_cons hk, fmd, if_neg hne, if_pos hc, if_neg h3]
theorem Fst.cr {r : List Ck} {k st : Nat} {la : Int} (h : Fst r k st la) (hk : k < r.length) (h1 : (r[k]).1 ≠ tH) (h2 : (r[k]).1 ≠ tD) (hc : (r[k]).1 ≠ tE ∧ crit (r[k]).1) : fmd 0 r = false := by
 rw [h.1, List.drop_eq_getElem_cons hk, fmd, if_neg h1, if_neg h2, if_pos hc]
theorem Fst.more {r : List Ck} {k st : Nat} {la : Int} (h : Fst r k st la) (hk : k < r.length) (h1 : (r[k]).1 ≠ tH) (h2 : (r[k]).1 ≠ tD) (hc : ¬ ((r[k]).1 ≠ tE ∧ crit (r[k]).1)) : Fst r (k + 1) (if st = 0 then 0 else 2) la := by
 refine ⟨?_, h.2.1, by have := h.2.2.1; omega, ?_⟩
 · rw [h.1, List.drop_eq_getElem_cons hk, fmd, if_neg h1, if_neg h2, if_neg hc]
 rw [any_f hk h2]
 rcases h.2.2.2 with ⟨h0, h3⟩ | ⟨h0, h3, h4⟩ | ⟨h0, h3, h4⟩
 · exact .inl ⟨by rw [if_pos h0], h3⟩
 · exact .inr (.inr ⟨by rw [if_neg (by omega)], h3, by omega⟩)
 exact .inr (.inr ⟨by rw [if_neg (by omega)], h3, by omega⟩)
theorem Fst.all {r : List Ck} {st : Nat} {la : Int} (h : Fst r r.length st la) : fmd 0 r = true := by
 rw [h.1, List.drop_length]; cases st <;> rfl
end Pg
def ArrV (w w' : World) (v : Value) (h0 : Hd) (c : Ck) (r : List Ck) : Prop :=
 ((c.1 = tH ∧ c.2.length = 13 ∧ fmd 0 r = true) ∧ ∃ vd, v = .tuple #[slv h0, vd, .bool (anyD r), i64 0] ∧ M w Nn w' [Rg.sl u8 5 vd (dtc r)]) ∨ ((c.1 ≠ tH ∨ c.2.length ≠ 13 ∨ fmd 0 r = false) ∧ v = .tuple #[nilS, nilS, .bool false, i64 9] ∧ Ext w w')
set_option maxHeartbeats 2000000 in
theorem arranged_ret (p : Value) (h0 : Hd) (hr : List Hd) (c : Ck) (r : List Ck) (w : World) (hc : Cks w p (h0 :: hr) (c :: r)) (h4 : ∀ x ∈ r, x.1.length = 4) (hb : (dtc r).length ≤ 100000000) (hrl : r.length ≤ 100000) :
  Ret Tryz.prog 27 #[p] w fun v w' => ArrV w w' v h0 c r := by
 have hM := M.start w
 refine enter Tryz.func27 rfl (by kernel_rfl) Tryz.ntmps27 rfl $ Kb $ Kn rfl $ Kn rfl $ Kn rfl $ Kc rfl $ C.seq $ C.chainE [(0, _), (3, _), (4, _)] rfl [(21, .bool (decide (c.1 ≠ tH ∨ c.2.length ≠ 13)))] ?_ ?_
 ·
  refine C.region $ Km rfl $ E.idxF (k := 0) rfl rfl (hc.row.ext hM.toExt) rfl (by rw [zc_len hc.len]; simp) (by decide) U35 (by kernel_rfl) rfl $ E.fld (o := 0) (sz := 0) rfl U39 rfl rfl (by kernel_rfl) rfl $ E.load rfl U9 rfl ((hc.ext hM.toExt).at (i := 0) (by simp) 0 _ rfl) rfl $ E.nestr (l := c.1) (m := tH) rfl rfl rfl $ Km rfl $ E.split 14 rfl (fun g14 => ?_) (fun g14 => ?_)
  ·
   try simp only [Ya, Yb, Yc, Yd, Ye, Yf] at g14
   refine Kq rfl $ Kq rfl $ Kq rfl $ Kq rfl $ Kq rfl $ Kq rfl $ Kr rfl $ E.nil $ X.join0 (Sub.cons (look_eq rfl (congrArg Value.bool (by exact (decide_eq_true (p := c.1 ≠ tH ∨ c.2.length ≠ 13) (.inl (by simpa using g14))).symm))) $ Sub.nil _) rfl rfl
  try simp only [Ya, Yb, Yc, Yd, Ye, Yf] at g14
  refine Ko rfl $ Km rfl $ Ko rfl $ E.idxF (k := 0) rfl rfl (hc.row.ext hM.toExt) rfl (by rw [zc_len hc.len]; simp) (by decide) U35 (by kernel_rfl) rfl $ Ko rfl $ E.fld (o := 1) (sz := 0) rfl U39 rfl rfl (by kernel_rfl) rfl $ Ko rfl $ E.load rfl U22 rfl ((hc.ext hM.toExt).at (i := 0) (by simp) 1 _ rfl) rfl $ Ko rfl $ E.lenv rfl (Rd.shape (hc.data (i := 0) (by simp))) U22 rfl $ Ko rfl $ Kp rfl $ Kr rfl $ E.nil $ X.join0 (Sub.cons (look_eq rfl (congrArg Value.bool (by exact decide_eq_decide.2 ⟨fun h => .inr (fun e => h (by show ((c.2.length : Nat) : Int) = 13; omega)), fun h e => by rcases h with h | h; exact h (by simpa using g14); (have e' : ((c.2.length : Nat) : Int) = 13 := e; omega)⟩))) $ Sub.nil _) rfl rfl
 refine C.cond' rfl (fun hC0 => ?_) (fun hC0 => ?_)
 ·
  refine Kb $ Kn rfl $ Kn rfl $ Kn rfl $ Kc rfl $ C.ret $ X.retT $ ret4 rfl rfl rfl rfl rfl ?_
  exact .inr ⟨by rcases hC0 with h | h; exact .inl h; exact .inr (.inl h), rfl, hM.toExt⟩
 have hcH : c.1 = tH := Decidable.byContradiction fun h => hC0 (.inl h)
 have hc13 : c.2.length = 13 := Decidable.byContradiction fun h => hC0 (.inr h)
 refine Kk $ Kb $ Kc rfl $ C.seq $ Kb $ Km rfl $ E.slcF (k' := .i64) 1 (zc (c :: r) (h0 :: hr)).length rfl (.inl rfl) (.inr ⟨rfl, rfl⟩) (hc.row.ext hM.toExt) U35 (by kernel_rfl) (by rw [zc_len hc.len]; simp) (Nat.le_refl _) rfl ?_
 intro v23 q23
 have hc1 := hc.tail q23
 refine E.lenv rfl hc1.shape U35 rfl $ Km rfl $ Ka $ C.block $ ?_
 have hM := hM.nil u8 5
 try dsimp only [List.nil_append, List.cons_append] at hM
 refine C.loop4 [(0, _), (23, _), (24, _)] rfl (fun (k : Nat) (vd : Value) (st : Nat) (la : Int) => [(3, vd), (4, .bool (anyD (r.take k))), (6, i64 la), (25, i64 k)]) (fun (k : Nat) (vd : Value) (st : Nat) (la : Int) w' => M w (Nn) w' [Rg.sl u8 5 vd (dtc (r.take k))] ∧ k ≤ r.length ∧ Fst r k st la) (fun (k : Nat) (vd : Value) (st : Nat) (la : Int) => r.length - k) 0 nilS 0 0 ?_ ?_ ?_
 · exact Sub.cons rfl $ Sub.cons rfl $ Sub.cons rfl $ S1 rfl
 · exact ⟨hM, Nat.zero_le _, Fst.zero r⟩
 rintro k vd st la w0 ⟨hM, hk, hF⟩
 refine Kb $ Kp rfl $ Ka $ C.seq $ C.cond' rfl (fun hC1 => ?_) (fun hC1 => ?_)
 ·
  have hk' : k < r.length := by omega
  have h4k := h4 r[k] (List.getElem_mem hk')
  have hdl : (dtc (r.take k)).length + (dtc (r.drop k)).length = (dtc r).length := by rw [← List.length_append, ← dat_app, List.take_append_drop]
  refine Kk $ C.cut3 [(0, _), (23, _), (24, _), (25, _)] rfl (fun (vd2 : Value) (st2 : Nat) (la2 : Int) => [(3, vd2), (4, .bool (anyD (r.take (k + 1)))), (6, i64 la2)]) (fun (vd2 : Value) (st2 : Nat) (la2 : Int) w' => M w (Nn) w' [Rg.sl u8 5 vd2 (dtc (r.take (k + 1)))] ∧ Fst r (k + 1) st2 la2) ?_ ?_
  ·
   refine C.block $ Kb $ Km rfl $ E.idxF (k := k) rfl rfl (hc1.row.ext hM.toExt) rfl (by rw [zc_len hc1.len]; exact hk') (by decide) U35 (by kernel_rfl) rfl $ E.loadA (cs := [str (r[k]).1, slv (hr[k]'(by rw [hc1.len]; exact hk'))]) rfl U39 rfl (by kernel_rfl) ((hc1.ext hM.toExt).at hk') rfl $ E.allocM (z := .agg #[.string .empty, .slice none 0 0]) (cs := [.string .empty, .slice none 0 0]) hM (by kernel_rfl) rfl rfl ?_
   intro b8 w1 hM
   refine Kn rfl $ E.storeAM 1 hM rfl rfl rfl (by kernel_rfl) rfl (ones rfl $ ones rfl $ ones_nil) ?_
   intro w2 hM
   refine Ka $ C.block $ Kb $ E.fld (o := 0) (sz := 0) rfl U39 rfl rfl (by kernel_rfl) rfl $ E.load rfl U9 rfl (hM.bcell 1 rfl rfl) rfl $ E.eqstr (l := (r[k]).1) (m := tH) rfl rfl rfl $ Kc rfl $ C.cond' rfl (fun hC2 => ?_) (fun hC2 => ?_)
   ·
    refine Kb $ Kn rfl $ Kn rfl $ Kn rfl $ Kc rfl $ C.ret $ X.retB $ X.retB $ X.retT $ X.retT $ X.retB $ X.retT $ ret4 rfl rfl rfl rfl rfl ?_
    exact .inr ⟨.inr (.inr (hF.head hk' hC2)), rfl, hM.toExt⟩
   refine Kb $ E.fld (o := 0) (sz := 0) rfl U39 rfl rfl (by kernel_rfl) rfl $ E.load rfl U9 rfl (hM.bcell 1 rfl rfl) rfl $ E.eqstr (l := (r[k]).1) (m := tD) rfl rfl rfl $ Kc rfl $ C.cond' rfl (fun hC3 => ?_) (fun hC3 => ?_)
   ·
    refine C.seq $ C.chainE [(0, _), (3, _), (7, _), (8, _), (23, _), (24, _), (25, _)] rfl [(44, .bool (decide (anyD (r.take k) = true ∧ la ≠ (k : Int) - 1)))] ?_ ?_
    ·
     refine C.region $ Kf rfl $ E.split 39 rfl (fun g39 => ?_) (fun g39 => ?_)
     ·
      try simp only [Ya, Yb, Yc, Yd, Ye, Yf] at g39
      refine Ko rfl $ Km rfl $ Ko rfl $ Km rfl $ Ko rfl $ E.sub' rfl rfl (by have := hF.2.2.1; omega) rfl $ Ko rfl $ Kp rfl $ Kr rfl $ E.nil $ X.join0 (Sub.cons (look_eq rfl (congrArg Value.bool (by exact decide_eq_decide.2 ⟨fun h => ⟨g39, h⟩, fun h => h.2⟩))) $ Sub.nil _) rfl rfl
     try simp only [Ya, Yb, Yc, Yd, Ye, Yf] at g39
     refine Kq rfl $ Kq rfl $ Kq rfl $ Kq rfl $ Kr rfl $ E.nil $ X.join0 (Sub.cons (look_eq rfl (congrArg Value.bool (by exact (decide_eq_false (p := anyD (r.take k) = true ∧ la ≠ (k : Int) - 1) (fun h => by rw [h.1] at g39; cases g39)).symm))) $ Sub.nil _) rfl rfl
    refine C.cond' rfl (fun hC4 => ?_) (fun hC4 => ?_)
    ·
     refine Kb $ Kn rfl $ Kn rfl $ Kn rfl $ Kc rfl $ C.ret $ X.retT $ X.retB $ X.retB $ X.retT $ X.retT $ X.retB $ X.retT $ ret4 rfl rfl rfl rfl rfl ?_
     exact .inr ⟨.inr (.inr (hF.bad hk' hC3 hC4)), rfl, hM.toExt⟩
    refine Kk $ Kb $ Km rfl $ Kn rfl $ Kc rfl $ C.region $ Km rfl $ E.fld (o := 1) (sz := 0) rfl U39 rfl rfl (by kernel_rfl) rfl $ E.load rfl U22 rfl (hM.bcell 1 rfl rfl) rfl ?_
    have hdk := dat_t hk' hC3
    have hdc : (r[k]).2.length ≤ (dtc (r.drop k)).length := by rw [List.drop_eq_getElem_cons hk', dtc, if_pos hC3, List.length_append]; omega
    refine E.appendM 0 hM rfl rfl rfl U22 elem_Tuint8 ((hc1.data hk').ext hM.toExt) (fun _ => rfl) (by omega) (by omega) rfl ?_
    intro v49 w3 hM
    refine Kn rfl $ E.nil $ X.outN $ X.outN $ ?_
    rw [← hdk] at hM
    refine X.join3 _ 1 (k : Int) (Sub.cons rfl $ Sub.cons (look_eq rfl (congrArg Value.bool (any_t hk' hC3).symm)) $ S1 rfl) rfl ⟨hM.pick [0] (by decide), hF.data hk' hC3 hC4⟩
   refine C.cut0 [(0, _), (3, _), (4, _), (6, _), (23, _), (24, _), (25, _)] rfl [(50, .bool (decide ((r[k]).1 ≠ tE ∧ crit (r[k]).1)))] (fun w' => M w (Nn) w' [Rg.sl u8 5 vd (dtc (r.take k))]) ?_ ?_
   ·
    refine C.region $ E.fld (o := 0) (sz := 0) rfl U39 rfl rfl (by kernel_rfl) rfl $ E.load rfl U9 rfl (hM.bcell 1 rfl rfl) rfl $ E.nestr (l := (r[k]).1) (m := tE) rfl rfl rfl $ Km rfl $ E.split 54 rfl (fun g54 => ?_) (fun g54 => ?_)
    ·
     try simp only [Ya, Yb, Yc, Yd, Ye, Yf] at g54
     refine Ko rfl $ E.fld (o := 0) (sz := 0) rfl U39 rfl rfl (by kernel_rfl) rfl $ Ko rfl $ E.load rfl U9 rfl (hM.bcell 1 rfl rfl) rfl $ Ko rfl $ E.call rfl rfl (critical_ret (r[k]).1 _ (by omega)) ?_
     rintro _ w4 ⟨rfl, x4⟩
     have hM := hM.ext x4
     have hcr : (65 ≤ ((r[k]).1[0]'(by omega)).toNat ∧ ((r[k]).1[0]'(by omega)).toNat ≤ 90) ↔ crit (r[k]).1 := by
      have := at_get (l := (r[k]).1) (i := 0) (by omega)
      unfold crit; omega
     refine Kr rfl $ Kn rfl $ E.nil $ X.join0  (Sub.cons (look_eq rfl (congrArg Value.bool (decide_eq_decide.2 ⟨fun h => ⟨by simpa using g54, hcr.1 h⟩, fun h => hcr.2 h.2⟩))) $ Sub.nil _) rfl (hM.pick [0] (by decide))
    try simp only [Ya, Yb, Yc, Yd, Ye, Yf] at g54
    refine Kq rfl $ Kq rfl $ Kq rfl $ Kr rfl $ Kn rfl $ E.nil $ X.join0  (Sub.cons (look_eq rfl (congrArg Value.bool (decide_eq_false (p := (r[k]).1 ≠ tE ∧ crit (r[k]).1) (fun h => h.1 (by simpa using g54))).symm)) $ Sub.nil _) rfl (hM.pick [0] (by decide))
   rintro  w5 hM
   refine C.cond' rfl (fun hC5 => ?_) (fun hC5 => ?_)
   ·
    refine Kb $ Kn rfl $ Kn rfl $ Kn rfl $ Kc rfl $ C.ret $ X.retB $ X.retB $ X.retT $ X.retT $ X.retB $ X.retT $ ret4 rfl rfl rfl rfl rfl ?_
    exact .inr ⟨.inr (.inr (hF.cr hk' hC2 hC3 hC5)), rfl, hM.toExt⟩
   refine C.skip $ X.outN $ X.outN $ X.join3 vd (if st = 0 then 0 else 2) la (Sub.cons rfl $ Sub.cons (look_eq rfl (congrArg Value.bool (any_f hk' hC3).symm)) $ S1 rfl) rfl ⟨by rw [dat_f hk' hC3]; exact hM, hF.more hk' hC2 hC3 hC5⟩
  rintro vd2 st2 la2 w6 ⟨hM, hF2⟩
  refine C.region $ E.add rfl rfl (by omega) rfl $ Km rfl $ E.nil $ X.again4 (k + 1) vd2 st2 la2 (Sub.cons rfl $ Sub.cons rfl $ Sub.cons rfl $ S1 rfl) rfl ⟨hM, by omega, hF2⟩ (by omega)
 obtain rfl : k = r.length := by omega
 rw [List.take_length] at hM ⊢
 refine Kx $ Kb $ Km rfl $ E.idxF (k := 0) rfl rfl (hc.row.ext hM.toExt) rfl (by rw [zc_len hc.len]; simp) (by decide) U35 (by kernel_rfl) rfl $ E.fld (o := 1) (sz := 0) rfl U39 rfl rfl (by kernel_rfl) rfl $ E.load rfl U22 rfl ((hc.ext hM.toExt).at (i := 0) (by simp) 1 _ rfl) rfl $ Kf rfl $ Kn rfl $ Kn rfl $ Kn rfl $ Kc rfl $ C.ret $ ret4 rfl rfl rfl rfl rfl ?_
 exact .inl ⟨⟨hcH, hc13, hF.all⟩, _, rfl, hM⟩
end Go.Proofs.YtajklleiifhipaaGreatDoor
