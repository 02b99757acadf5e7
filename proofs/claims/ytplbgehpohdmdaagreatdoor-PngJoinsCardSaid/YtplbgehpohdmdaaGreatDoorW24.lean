/- Texts of the claim, laid together: Pg5, Arg35, Pg6. -/
import Derived.Test.YtplbgehpohdmdaaGreatDoorW0
import Derived.Test.YtplbgehpohdmdaaGreatDoorW13
import Derived.Test.YtplbgehpohdmdaaGreatDoorW14
import Derived.Test.YtplbgehpohdmdaaGreatDoorW15
import Derived.Test.YtplbgehpohdmdaaGreatDoorW21
import Derived.Test.YtplbgehpohdmdaaGreatDoorW22
import Derived.Test.YtplbgehpohdmdaaGreatDoorW23
set_option linter.unusedSimpArgs false
set_option linter.unusedVariables false
namespace Go.Proofs.YtplbgehpohdmdaaGreatDoor
open Go.RowKit Sym
open Pg
theorem Sym.M.offSl {α : Type} {enc : α → Value} {e : TypeId} {w0 w : World} {S : Nat → Prop} {rs : List Rg} {v : Value} {l : List α} {q : Rg} (h : M w0 S w rs) (i j : Nat) (hne : i ≠ j) (hi : rs[i]? = some (Rg.sl enc e v l)) (hj : rs[j]? = some q) : Off (fpU [q]) v l := by
 have ho : OwnL enc w 0 e v l := h.own i hi
 rcases ho.2 with ⟨_, h0⟩ | ⟨g, cap, cur, rfl, _⟩
 · exact .inl (List.length_eq_zero_iff.1 h0)
 · exact .inr fun hf => h.sep.apart i j _ q hi hj hne g rfl (fp1.1 hf)
theorem mul_small {a b : Int} (h1 : 1 ≤ a) (h2 : a ≤ 4096) (h3 : 1 ≤ b) (h4 : b ≤ 4096) : 0 ≤ a * b ∧ a * b ≤ 16777216 :=
 ⟨Int.mul_nonneg (by omega) (by omega), by have := Int.mul_le_mul h2 h4 (by omega) (by omega); omega⟩
abbrev imv (W H : Int) (vp : Value) : Value := .agg #[i64 W, i64 H, vp]
namespace Pg
theorem pkx_zero (row : List UInt8) : pkx row 0 = List.replicate ((row.length + 7) / 8) 0 := by
 refine List.ext_getElem? fun j => ?_
 unfold pkx
 by_cases h : j < (row.length + 7) / 8
 · rw [tab_get h, List.getElem?_replicate, if_pos h, show min 8 (0 - 8 * j) = 0 by omega]; rfl
 · rw [List.getElem?_eq_none (by rw [tab_len]; omega), List.getElem?_eq_none (by rw [List.length_replicate]; omega)]
theorem pkx_get {row : List UInt8} {x i : Nat} (h : i < (row.length + 7) / 8) : (pkx row x)[i]'(by rw [pkx_len]; exact h) = UInt8.ofNat (pb row i (min 8 (x - 8 * i))) := by
 have := tab_get (f := fun i => UInt8.ofNat (pb row i (min 8 (x - 8 * i)))) h
 unfold pkx
 rw [List.getElem?_eq_getElem (by rw [tab_len]; exact h)] at this
 exact Option.some.inj this
theorem pkx_step {row : List UInt8} {x : Nat} (h : x < row.length) : (pkx row x).set (x / 8) (UInt8.ofNat (pb row (x / 8) (x % 8 + 1))) = pkx row (x + 1) := by
  refine List.ext_getElem? fun j => ?_
  by_cases hj : j < (row.length + 7) / 8
  · by_cases e : x / 8 = j
    · subst e
      rw [List.getElem?_set_self (by rw [pkx_len]; exact hj)]
      unfold pkx
      rw [tab_get hj, show min 8 (x + 1 - 8 * (x / 8)) = x % 8 + 1 by omega]
    · rw [List.getElem?_set_ne e]
      unfold pkx
      rw [tab_get hj, tab_get hj, show min 8 (x + 1 - 8 * j) = min 8 (x - 8 * j) by omega]
  · rw [List.getElem?_eq_none (by rw [List.length_set, pkx_len]; omega), List.getElem?_eq_none (by rw [pkx_len]; omega)]
theorem pkx_skip {row : List UInt8} {x : Nat} (h : x < row.length) (h0 : at_ row x = 0) : pkx row (x + 1) = pkx row x := by
  unfold pkx
  refine tab_congr fun i hi => ?_
  by_cases e : x / 8 = i
  · subst e
    rw [show min 8 (x + 1 - 8 * (x / 8)) = min 8 (x - 8 * (x / 8)) + 1 by omega, pb, show 8 * (x / 8) + min 8 (x - 8 * (x / 8)) = x by omega, h0]; rfl
  · rw [show min 8 (x + 1 - 8 * i) = min 8 (x - 8 * i) by omega]
theorem pb_or {row : List UInt8} {i k : Nat} (hk : k < 8) (h : at_ row (8 * i + k) ≠ 0) : bits .or .u8 (((UInt8.ofNat (pb row i k)).toNat : Nat) : Int) ((128 / 2 ^ k : Nat) : Int) = (((UInt8.ofNat (pb row i (k + 1))).toNat : Nat) : Int) := by
 have h1 := pb_lt row i k (by omega)
 have h2 := pb_lt row i (k + 1) (by omega)
 have e1 : (UInt8.ofNat (pb row i k)).toNat = pb row i k := by simp; omega
 have e2 : (UInt8.ofNat (pb row i (k + 1))).toNat = pb row i (k + 1) := by simp; omega
 have e3 : 128 / 2 ^ k = 2 ^ (7 - k) := by rw [show (128 : Nat) = 2 ^ 7 from rfl, Nat.pow_div (by omega) (by decide)]
 have e4 : 2 ^ (7 - k) < 2 ^ (8 - k) := Nat.pow_lt_pow_right (by decide) (by omega)
 have e5 : 128 / 2 ^ k < 256 := Nat.lt_of_le_of_lt (Nat.div_le_self _ _) (by decide)
 rw [e1, e2, u8_or_nat _ _ h1 e5, pb, if_pos h, e3, pb_vb row i k (by omega), ← Nat.shiftLeft_eq, ← Nat.shiftLeft_add_eq_or_of_lt e4]
theorem shr8 (x : Nat) : (128 : Int) / 2 ^ min ((x : Int) % 8).toNat IntKind.u8.bits = ((128 / 2 ^ (x % 8) : Nat) : Int) := by
 have h : ∀ s, s < 8 → (128 : Int) / 2 ^ min s IntKind.u8.bits = ((128 / 2 ^ s : Nat) : Int) := by decide
 rw [show ((x : Int) % 8).toNat = x % 8 by omega, h _ (Nat.mod_lt _ (by decide))]
theorem wgt_succ {l : List UInt8} {k : Nat} (h : k < l.length) : wgt (l.take (k + 1)) = wgt (l.take k) + min (l[k]).toNat (256 - (l[k]).toNat) := by
 unfold wgt
 rw [← List.take_append_getElem h, List.map_append, List.sum_append]; simp
def bK (row prior : List UInt8) : Nat → Nat
 | 0 => 0
 | k + 1 => bsk row prior k
theorem bK_s (row prior : List UInt8) (k : Nat) : bK row prior (k + 1) = bsk row prior k := rfl
def lK (row prior : List UInt8) : Nat → Int
 | 0 => -1
 | k + 1 => (wgt (fil (bsk row prior k) row prior) : Int)
theorem lK_s (row prior : List UInt8) (k : Nat) : lK row prior (k + 1) = (wgt (fil (bsk row prior k) row prior) : Int) := rfl
def cK (row prior : List UInt8) : Nat → List UInt8
 | 0 => []
 | k + 1 => fil (bsk row prior k) row prior
theorem cK_s (row prior : List UInt8) (k : Nat) : cK row prior (k + 1) = fil (bsk row prior k) row prior := rfl
theorem bK_t {row prior : List UInt8} {k : Nat} (h : lK row prior k < 0 ∨ (wgt (fil k row prior) : Int) < lK row prior k) : bsk row prior k = k := by
 cases k with
 | zero => rfl
 | succ k =>
  have : wgt (fil (k + 1) row prior) < wgt (fil (bsk row prior k) row prior) := by rw [lK_s] at h; omega
  rw [bsk, if_pos this]
theorem bK_f {row prior : List UInt8} {k : Nat} (h : ¬ (lK row prior k < 0 ∨ (wgt (fil k row prior) : Int) < lK row prior k)) : bK row prior (k + 1) = bK row prior k ∧ lK row prior (k + 1) = lK row prior k ∧ cK row prior (k + 1) = cK row prior k := by
 cases k with
 | zero => exact (h (.inl (show (-1 : Int) < 0 by decide))).elim
 | succ k =>
  have : ¬ wgt (fil (k + 1) row prior) < wgt (fil (bsk row prior k) row prior) := by rw [lK_s] at h; omega
  have e : bsk row prior (k + 1) = bsk row prior k := by rw [bsk, if_neg this]
  exact ⟨by rw [bK_s, bK_s, e], by rw [lK_s, lK_s, e], by rw [cK_s, cK_s, e]⟩
def vlk (row : List UInt8) (d x : Nat) : UInt8 := UInt8.ofNat (255 * (at_ row (x * d / 8) / 2 ^ (8 - d - x * d % 8) % 2 ^ d) / (2 ^ d - 1))
theorem shr_i64 {v k : Nat} (hk : k ≤ 63) : (v : Int) / 2 ^ min (k : Int).toNat IntKind.i64.bits = ((v / 2 ^ k : Nat) : Int) := by
 rw [Int.toNat_natCast, show min k IntKind.i64.bits = k from Nat.min_eq_left (by simp [IntKind.bits]; omega)]; simp
theorem and_mask {v d : Nat} (hv : v ≤ 255) (hd : d ≤ 8) : bits .and .i64 (v : Int) ((2 ^ d - 1 : Nat) : Int) = ((v % 2 ^ d : Nat) : Int) := by
 have : 2 ^ d ≤ 2 ^ 8 := Nat.pow_le_pow_right (by decide) hd
 rw [i64_and_nat _ _ (by omega) (by omega), Nat.and_two_pow_sub_one_eq_mod]
end Pg
theorem possible_ret (W H : Int) (w : World) :
  Ret Tryz.prog 60 #[i64 W, i64 H] w fun v w' => v = .bool (decide (1 ≤ W ∧ W ≤ 4096 ∧ 1 ≤ H ∧ H ≤ 4096 ∧ W * H ≤ 4194304)) ∧ Ext w w' := by
 have hM := M.start w
 refine enter Tryz.func60 rfl (by kernel_rfl) Tryz.ntmps60 rfl ?_
 refine C.seq <| C.region <| E.asg rfl rfl <| E.nil <| X.next <| ?_

 refine C.chainE [] rfl [(4, .bool (decide (1 ≤ W ∧ W ≤ 4096 ∧ 1 ≤ H ∧ H ≤ 4096 ∧ W * H ≤ 4194304)))] ?_ ?_
 ·
  refine C.region <| E.mv rfl rfl <| E.bin rfl rfl rfl rfl <| E.mv rfl rfl <| ?_
  refine E.split 7 rfl (fun g7 => ?_) (fun g7 => ?_)
  ·
   try simp only [Ya, Yb, Yc, Yd, Ye, Yf] at g7
   refine E.on rfl rfl (E.mv rfl rfl ?_)
   refine E.on rfl rfl (E.bin rfl rfl rfl rfl ?_)
   refine E.pick rfl rfl rfl <| E.mv rfl rfl <| ?_
   refine E.split 11 rfl (fun g11 => ?_) (fun g11 => ?_)
   ·
    try simp only [Ya, Yb, Yc, Yd, Ye, Yf] at g11
    refine E.on rfl rfl (E.mv rfl rfl ?_)
    refine E.on rfl rfl (E.bin rfl rfl rfl rfl ?_)
    refine E.pick rfl rfl rfl <| E.mv rfl rfl <| ?_
    refine E.split 15 rfl (fun g15 => ?_) (fun g15 => ?_)
    ·
     try simp only [Ya, Yb, Yc, Yd, Ye, Yf] at g15
     refine E.on rfl rfl (E.mv rfl rfl ?_)
     refine E.on rfl rfl (E.bin rfl rfl rfl rfl ?_)
     refine E.pick rfl rfl rfl <| E.mv rfl rfl <| ?_
     refine E.split 19 rfl (fun g19 => ?_) (fun g19 => ?_)
     ·
      try simp only [Ya, Yb, Yc, Yd, Ye, Yf] at g19
      have hms := mul_small (a := W) (b := H) (by omega) (by omega) (by omega) (by omega)
      refine E.on rfl rfl (E.mv rfl rfl ?_)
      refine E.on rfl rfl (E.mv rfl rfl ?_)
      refine E.on rfl rfl (E.mul rfl rfl (by omega) rfl ?_)
      refine E.on rfl rfl (E.bin rfl rfl rfl rfl ?_)
      refine E.pick rfl rfl rfl <| E.asg rfl rfl <| E.nil <| X.join0 (Sub.cons (look_eq rfl (congrArg Value.bool (by exact decide_eq_decide.2 ⟨fun h => by omega, fun h => by omega⟩))) <| Sub.nil _) rfl rfl
     ·
      try simp only [Ya, Yb, Yc, Yd, Ye, Yf] at g19
      refine E.off rfl rfl rfl rfl <| E.off rfl rfl rfl rfl <| E.off rfl rfl rfl rfl <| E.off rfl rfl rfl rfl <| E.pick rfl rfl rfl <| E.asg rfl rfl <| E.nil <| X.join0 (Sub.cons (look_eq rfl (congrArg Value.bool (by exact (decide_eq_false (p := 1 ≤ W ∧ W ≤ 4096 ∧ 1 ≤ H ∧ H ≤ 4096 ∧ W * H ≤ 4194304) (by omega)).symm))) <| Sub.nil _) rfl rfl
    ·
     try simp only [Ya, Yb, Yc, Yd, Ye, Yf] at g15
     refine E.off rfl rfl rfl rfl <| E.off rfl rfl rfl rfl <| E.pick rfl rfl rfl <| E.mv rfl rfl <| E.off rfl rfl rfl rfl <| E.off rfl rfl rfl rfl <| E.off rfl rfl rfl rfl <| E.off rfl rfl rfl rfl <| E.pick rfl rfl rfl <| E.asg rfl rfl <| E.nil <| X.join0 (Sub.cons (look_eq rfl (congrArg Value.bool (by exact (decide_eq_false (p := 1 ≤ W ∧ W ≤ 4096 ∧ 1 ≤ H ∧ H ≤ 4096 ∧ W * H ≤ 4194304) (by omega)).symm))) <| Sub.nil _) rfl rfl
   ·
    try simp only [Ya, Yb, Yc, Yd, Ye, Yf] at g11
    refine E.off rfl rfl rfl rfl <| E.off rfl rfl rfl rfl <| E.pick rfl rfl rfl <| E.mv rfl rfl <| E.off rfl rfl rfl rfl <| E.off rfl rfl rfl rfl <| E.pick rfl rfl rfl <| E.mv rfl rfl <| E.off rfl rfl rfl rfl <| E.off rfl rfl rfl rfl <| E.off rfl rfl rfl rfl <| E.off rfl rfl rfl rfl <| E.pick rfl rfl rfl <| E.asg rfl rfl <| E.nil <| X.join0 (Sub.cons (look_eq rfl (congrArg Value.bool (by exact (decide_eq_false (p := 1 ≤ W ∧ W ≤ 4096 ∧ 1 ≤ H ∧ H ≤ 4096 ∧ W * H ≤ 4194304) (by omega)).symm))) <| Sub.nil _) rfl rfl
  ·
   try simp only [Ya, Yb, Yc, Yd, Ye, Yf] at g7
   refine E.off rfl rfl rfl rfl <| E.off rfl rfl rfl rfl <| E.pick rfl rfl rfl <| E.mv rfl rfl <| E.off rfl rfl rfl rfl <| E.off rfl rfl rfl rfl <| E.pick rfl rfl rfl <| E.mv rfl rfl <| E.off rfl rfl rfl rfl <| E.off rfl rfl rfl rfl <| E.pick rfl rfl rfl <| E.mv rfl rfl <| E.off rfl rfl rfl rfl <| E.off rfl rfl rfl rfl <| E.off rfl rfl rfl rfl <| E.off rfl rfl rfl rfl <| E.pick rfl rfl rfl <| E.asg rfl rfl <| E.nil <| X.join0 (Sub.cons (look_eq rfl (congrArg Value.bool (by exact (decide_eq_false (p := 1 ≤ W ∧ W ≤ 4096 ∧ 1 ≤ H ∧ H ≤ 4096 ∧ W * H ≤ 4194304) (by omega)).symm))) <| Sub.nil _) rfl rfl
 refine C.ret <| ret1 rfl rfl ?_
 exact ⟨rfl, hM.toExt⟩
theorem CheckImage_ret (W H : Int) (vp : Value) (pix : List UInt8) (w : World) (hp : RdL u8 w vp pix) :
  Ret Tryz.prog 40 #[imv W H vp] w fun v w' => v = i64 (if vld W H pix.length then 0 else 1) ∧ Ext w w' := by
 have hM := M.start w
 refine enter Tryz.func40 rfl (by kernel_rfl) Tryz.ntmps40 rfl ?_
 refine C.seq <| C.region <| ?_
 refine E.boxM hM rfl rfl rfl ?_
 intro b1 w0 hM
 try dsimp only [Za, Zb, Zc, Zd, repl] at hM
 refine E.asg rfl rfl <| E.nil <| X.next <| C.seq <| ?_

 refine C.cut0 [] rfl [(19, .bool (decide (¬ vld W H pix.length)))] (fun w' => M w (Nn) w' []) ?_ ?_
 ·
  refine C.region <| ?_
  refine E.fld (o := 0) (sz := 0) rfl Tryz.underlying36 rfl rfl (by kernel_rfl) rfl ?_
  refine E.load rfl Tryz.underlying3 rfl (hM.bcell 0 rfl rfl) rfl ?_
  refine E.fld (o := 1) (sz := 0) rfl Tryz.underlying36 rfl rfl (by kernel_rfl) rfl ?_
  refine E.load rfl Tryz.underlying3 rfl (hM.bcell 0 rfl rfl) rfl ?_
  refine E.call rfl rfl (possible_ret W H _) ?_
  rintro _ w1 ⟨rfl, x1⟩
  have hM := hM.ext x1
  try dsimp only [Za, Zb, Zc, Zd, repl] at hM
  refine E.not rfl rfl <| E.mv rfl rfl <| ?_
  refine E.split 9 rfl (fun g9 => ?_) (fun g9 => ?_)
  ·
   try simp only [Ya, Yb, Yc, Yd, Ye, Yf] at g9
   have g9' : ¬ (1 ≤ W ∧ W ≤ 4096 ∧ 1 ≤ H ∧ H ≤ 4096 ∧ W * H ≤ 4194304) := by simpa using g9

   refine E.off rfl rfl rfl rfl <| E.off rfl rfl rfl rfl <| E.off rfl rfl rfl rfl <| E.off rfl rfl rfl rfl <| E.off rfl rfl rfl rfl <| E.off rfl rfl rfl rfl <| E.off rfl rfl rfl rfl <| E.off rfl rfl rfl rfl <| E.off rfl rfl rfl rfl <| E.pick rfl rfl rfl <| E.nil <| X.join0  (Sub.cons (look_eq rfl (congrArg Value.bool (decide_eq_true (p := ¬ vld W H pix.length) (fun h => g9' ⟨h.1, h.2.1, h.2.2.1, h.2.2.2.1, h.2.2.2.2.1⟩)).symm)) <| Sub.nil _) rfl (hM.pick [] (by decide))
  ·
   try simp only [Ya, Yb, Yc, Yd, Ye, Yf] at g9
   have g9' : 1 ≤ W ∧ W ≤ 4096 ∧ 1 ≤ H ∧ H ≤ 4096 ∧ W * H ≤ 4194304 := by simpa using g9
   have hms := mul_small (a := W) (b := H) (by omega) (by omega) (by omega) (by omega)
   refine E.on rfl rfl (E.fld (o := 2) (sz := 0) rfl Tryz.underlying36 rfl rfl (by kernel_rfl) rfl ?_)
   refine E.on rfl rfl (E.load rfl Tryz.underlying22 rfl (hM.bcell 0 rfl rfl) rfl ?_)
   refine E.on rfl rfl (E.lenv rfl (Rd.shape (hM.arg0 hp)) Tryz.underlying22 rfl ?_)
   refine E.on rfl rfl (E.fld (o := 0) (sz := 0) rfl Tryz.underlying36 rfl rfl (by kernel_rfl) rfl ?_)
   refine E.on rfl rfl (E.load rfl Tryz.underlying3 rfl (hM.bcell 0 rfl rfl) rfl ?_)
   refine E.on rfl rfl (E.fld (o := 1) (sz := 0) rfl Tryz.underlying36 rfl rfl (by kernel_rfl) rfl ?_)
   refine E.on rfl rfl (E.load rfl Tryz.underlying3 rfl (hM.bcell 0 rfl rfl) rfl ?_)
   refine E.on rfl rfl (E.mul rfl rfl (by omega) rfl ?_)
   refine E.on rfl rfl (E.bin rfl rfl rfl rfl ?_)

   refine E.pick rfl rfl rfl <| E.nil <| X.join0  (Sub.cons (look_eq rfl (congrArg Value.bool (decide_eq_decide.2 ⟨fun h k => h k.2.2.2.2.2, fun h k => h ⟨g9'.1, g9'.2.1, g9'.2.2.1, g9'.2.2.2.1, g9'.2.2.2.2, k⟩⟩))) <| Sub.nil _) rfl (hM.pick [] (by decide))
 rintro  w2 hM
 refine C.cond' rfl (fun hC0 => ?_) (fun hC0 => ?_)
 ·
  refine C.seq <| C.region <| E.asg rfl rfl <| E.nil <| X.next <| C.ret <| X.retT <| ret1 rfl rfl ?_
  exact ⟨by rw [if_neg hC0], hM.toExt⟩
 ·
  refine C.skip <| X.next <| C.seq <| C.region <| E.asg rfl rfl <| E.nil <| X.next <| C.ret <| ret1 rfl rfl ?_
  exact ⟨by rw [if_pos (Decidable.not_not.1 hC0)], hM.toExt⟩
theorem Clone8_ret (p : Value) (l : List UInt8) (w : World) (hp : RdL u8 w p l) (h1 : 1 ≤ l.length) (hl : l.length ≤ 1000000000) :
  Ret Tryz.prog 61 #[p] w fun v w' => M w Nn w' [Rg.sl u8 5 v l] := by
 have hM := M.start w
 refine enter Tryz.func61 rfl (by kernel_rfl) Tryz.ntmps61 rfl ?_
 refine C.seq <| C.region <| E.asg rfl rfl <| E.nil <| X.next <| C.seq <| C.seq <| C.region <| E.mv rfl rfl <| ?_
 refine E.eqnilS rfl (by obtain ⟨a, cap, h⟩ := Rd.shape hp; exact ⟨_, _, _, h⟩) rfl Tryz.underlying22 rfl ?_
 refine E.nil <| X.next <| ?_
 refine C.cond' rfl (fun hC0 => ?_) (fun hC0 => ?_)
 ·
  obtain ⟨a, cap, rfl, hc, hm, hl2, hsome, hat⟩ := hp
  cases a with
  | none => obtain ⟨b, off, h⟩ := hsome (by rw [List.length_map]; omega); cases h
  | some a => cases hC0
 ·
  refine C.skip <| X.next <| C.seq <| C.region <| ?_
  refine E.mkM (enc := u8) (e := 5) [] hM rfl (fun _ => by kernel_rfl) rfl rfl rfl ?_
  intro v5 w0 hM
  try dsimp only [Za, Zb, Zc, Zd, repl] at hM
  refine E.mv rfl rfl <| ?_
  refine E.appendM 0 hM rfl rfl rfl Tryz.underlying22 elem_Tuint8 (hM.arg0 hp) (fun _ => rfl) (by simp; omega) (by simp; omega) rfl ?_
  intro v7 w1 hM
  try dsimp only [Za, Zb, Zc, Zd, repl] at hM
  refine E.asg rfl rfl <| E.nil <| X.next <| C.ret <| ret1 rfl rfl ?_
  exact hM
set_option maxHeartbeats 1000000 in
theorem pack_ret (p : Value) (row : List UInt8) (d : Nat) (w : World) (hp : RdL u8 w p row) (h1 : 1 ≤ row.length) (hl : row.length ≤ 1000000) :
  Ret Tryz.prog 41 #[p, i64 d] w fun v w' => M w Nn w' [Rg.sl u8 5 v (pck row d)] := by
 have hM := M.start w
 refine enter Tryz.func41 rfl (by kernel_rfl) Tryz.ntmps41 rfl ?_
 refine C.seq <| C.region <| E.asg rfl rfl <| E.nil <| X.next <| C.seq <| C.seq <| C.region <| E.mv rfl rfl <| E.bin rfl rfl rfl rfl <| E.nil <| X.next <| ?_
 refine C.cond' rfl (fun hC0 => ?_) (fun hC0 => ?_)
 ·
  refine C.seq <| C.region <| E.mv rfl rfl <| ?_
  refine E.call rfl rfl (Clone8_ret p row _ (hM.arg0 hp) h1 (by omega)) ?_
  rintro v11 w0 m
  have hM := hM.call m
  try dsimp only [Za, Zb, Zc, Zd, repl] at hM
  refine E.asg rfl rfl <| E.nil <| X.next <| C.ret <| X.retT <| ret1 rfl rfl ?_
  exact by rw [pck, if_pos (by omega)]; exact hM
 ·
  refine C.skip <| X.next <| C.seq <| C.region <| E.mv rfl rfl <| ?_
  refine E.lenv rfl (Rd.shape (hM.arg0 hp)) Tryz.underlying22 rfl ?_
  refine E.addN (a := row.length) (b := 7) rfl rfl (by omega) rfl ?_
  refine E.quo (c := ((row.length + 7) / 8 : Nat)) rfl rfl (by omega) ((IntWalk.i64_quo _ _ (by omega)).trans (by omega)) rfl ?_
  refine E.makeM (by_ := 1) (enc := u8) 0 hM rfl Tryz.underlying22 (by kernel_rfl) rfl (by omega) (by omega) rfl ?_
  intro v16 w1 hM
  try dsimp only [Za, Zb, Zc, Zd, repl] at hM
  rw [← pkx_zero] at hM
  refine E.asg rfl rfl <| E.nil <| X.next <| C.seq <| C.seq <| C.region <| E.mv rfl rfl <| ?_
  refine E.lenv rfl (Rd.shape (hM.arg0 hp)) Tryz.underlying22 rfl ?_
  refine E.mv rfl rfl <| E.nil <| X.next <| C.block <| ?_

  refine C.loop1 [(5, _), (17, _), (18, _)] rfl (fun (x : Nat) => [(19, i64 x)]) (fun (x : Nat) w' => M w (Nn) w' [Rg.sl u8 5 v16 (pkx row x)] ∧ x ≤ row.length) (fun (x : Nat) => row.length - x) 0 ?_ ?_ ?_
  · exact Sub.cons rfl <| Sub.nil _
  · exact ⟨hM, Nat.zero_le _⟩
  rintro x w2 ⟨hM, hx⟩
  refine C.seq <| C.region <| E.bin rfl rfl rfl rfl <| E.nil <| X.next <| C.seq <| ?_
  refine C.cond' rfl (fun hC1 => ?_) (fun hC1 => ?_)
  ·
   have hx' : x < row.length := by omega
   have h8 : x / 8 < (row.length + 7) / 8 := by omega
   have hpl := pkx_len row x
   have hm8 : min 8 (x - 8 * (x / 8)) = x % 8 := by omega
   refine C.skip <| X.next <| ?_

   refine C.cut0 [(5, _), (17, _), (18, _), (19, _)] rfl [] (fun w' => M w (Nn) w' [Rg.sl u8 5 v16 (pkx row (x + 1))]) ?_ ?_
   ·
    refine C.block <| C.seq <| C.region <| E.mv rfl rfl <| ?_
    refine E.get (k := x) rfl rfl (hM.arg0 hp) rfl (by omega) Tryz.underlying22 (by kernel_rfl) Tryz.underlying5 rfl rfl rfl ?_
    rw [u8c, at_get hx']
    refine E.asg rfl rfl <| E.asg rfl rfl <| E.nil <| X.next <| C.seq <| C.region <| E.mv rfl rfl <| E.bin rfl rfl rfl rfl <| E.nil <| X.next <| ?_
    refine C.cond' rfl (fun hC2 => ?_) (fun hC2 => ?_)
    ·
     have hax : at_ row (8 * (x / 8) + x % 8) ≠ 0 := by rw [show 8 * (x / 8) + x % 8 = x by omega]; omega
     refine C.drawnT 10 (by kernel_rfl) (by kernel_rfl) fun wh3 hwh3 => ?_
     have hM := hM.ext hwh3
     refine S.mv rfl rfl <| S.mv rfl rfl <| ?_
     refine S.quo rfl rfl (by omega) (IntWalk.i64_quo _ _ (by omega)) rfl ?_
     refine S.idx1 (k := x / 8) rfl rfl (hM.sl 0 rfl) (by omega) (by omega) Tryz.underlying22 (by kernel_rfl) rfl ?_
     refine S.load rfl Tryz.underlying5 rfl ((hM.sl 0 rfl).cellA rfl (by omega)) rfl ?_
     rw [pkx_get h8, hm8, u8c]
     refine S.mv rfl rfl <| ?_
     refine S.rem rfl rfl (by omega) (IntWalk.rem_in _ _ (by omega)) rfl ?_
     refine S.shr rfl rfl (by omega) (shr8 x) rfl ?_
     refine S.binw rfl rfl rfl (congrArg _ (pb_or (Nat.mod_lt _ (by decide)) hax)) rfl ?_
     refine S.idx1 (k := x / 8) rfl rfl (hM.sl 0 rfl) (by omega) (by omega) Tryz.underlying22 (by kernel_rfl) rfl ?_
     refine S.nil ?_
     refine E.storeL 0 (UInt8.ofNat (pb row (x / 8) (x % 8 + 1))) hM rfl rfl rfl (by kernel_rfl) rfl rfl (by omega) ?_
     intro w4 hM
     try dsimp only [Za, Zb, Zc, Zd, repl] at hM
     refine E.nil <| X.outN <| ?_
     rw [pkx_step hx'] at hM

     refine X.join0  (Sub.nil _) rfl hM
    ·

     refine C.skip <| X.outN <| X.join0  (Sub.nil _) rfl (by rw [pkx_skip hx' (by omega)]; exact hM)
   rintro  w5 hM
   refine C.region <| ?_
   refine E.add rfl rfl (by omega) rfl ?_

   refine E.mv rfl rfl <| E.nil <| X.again1 (x + 1) (Sub.cons rfl <| Sub.nil _) rfl ⟨hM, by omega⟩ (by omega)
  ·
   obtain rfl : x = row.length := by omega
   refine C.exit <| X.exitT <| X.exitT <| X.outE <| X.next <| C.seq <| C.region <| E.mv rfl rfl <| E.asg rfl rfl <| E.nil <| X.next <| C.ret <| ret1 rfl rfl ?_
   exact by rw [pck, if_neg (by omega)]; exact hM
theorem weight_ret (p : Value) (l : List UInt8) (w : World) (hp : RdL u8 w p l) (hl : l.length ≤ 1000000) :
  Ret Tryz.prog 62 #[p] w fun v w' => v = i64 (wgt l : Int) ∧ Ext w w' := by
 have hM := M.start w
 refine enter Tryz.func62 rfl (by kernel_rfl) Tryz.ntmps62 rfl ?_
 refine C.seq <| C.region <| E.asg rfl rfl <| E.nil <| X.next <| C.seq <| C.region <| E.asg rfl rfl <| E.nil <| X.next <| C.seq <| C.seq <| C.region <| E.mv rfl rfl <| ?_
 refine E.lenv rfl (Rd.shape (hM.arg0 hp)) Tryz.underlying22 rfl ?_
 refine E.mv rfl rfl <| E.nil <| X.next <| C.block <| ?_

 refine C.loop1 [(6, _), (7, _)] rfl (fun (k : Nat) => [(3, i64 (wgt (l.take k) : Int)), (8, i64 k)]) (fun (k : Nat) w' => M w (Nn) w' [] ∧ k ≤ l.length) (fun (k : Nat) => l.length - k) 0 ?_ ?_ ?_
 · exact Sub.cons rfl <| Sub.cons rfl <| Sub.nil _
 · exact ⟨hM, Nat.zero_le _⟩
 rintro k w0 ⟨hM, hk⟩
 refine C.seq <| C.region <| E.bin rfl rfl rfl rfl <| E.nil <| X.next <| C.seq <| ?_
 refine C.cond' rfl (fun hC0 => ?_) (fun hC0 => ?_)
 ·
  have hk' : k < l.length := by omega
  have hwl := wgt_le (l.take k)
  rw [List.length_take] at hwl
  have hws := wgt_succ hk'
  have hlt := UInt8.toNat_lt l[k]
  refine C.skip <| X.next <| C.seq <| C.block <| C.seq <| C.region <| ?_
  refine E.get (k := k) rfl rfl (hM.arg0 hp) rfl (by omega) Tryz.underlying22 (by kernel_rfl) Tryz.underlying5 rfl rfl rfl ?_
  rw [u8c]
  refine E.asg rfl rfl <| E.nil <| X.next <| C.region <| E.mv rfl rfl <| E.mv rfl rfl <| ?_
  refine E.conv rfl Tryz.underlying5 Tryz.underlying3 (IntWalk.i64_in _ (by omega)) rfl ?_
  refine E.mv rfl rfl <| ?_
  refine E.conv rfl Tryz.underlying5 Tryz.underlying3 (IntWalk.i64_in _ (by omega)) rfl ?_
  refine E.sub' rfl rfl (by omega) rfl ?_
  refine E.min2 rfl rfl rfl <| ?_
  refine E.add rfl rfl (by omega) rfl ?_
  refine E.asg rfl rfl <| E.nil <| X.outN <| X.next <| C.region <| ?_
  refine E.add rfl rfl (by omega) rfl ?_

  refine E.mv rfl rfl <| E.nil <| X.again1 (k + 1) (Sub.cons (look_val rfl (by rw [hws]; omega)) <| Sub.cons rfl <| Sub.nil _) rfl ⟨hM, by omega⟩ (by omega)
 ·
  obtain rfl : k = l.length := by omega
  rw [List.take_length]
  refine C.exit <| X.exitT <| X.exitT <| X.outE <| X.next <| C.seq <| C.region <| E.mv rfl rfl <| E.asg rfl rfl <| E.nil <| X.next <| C.ret <| ret1 rfl rfl ?_
  exact ⟨rfl, hM.toExt⟩
set_option maxHeartbeats 1000000 in
theorem appendBest_ret (p q r : Value) (data row prior : List UInt8) (w : World) (hs : Sep w [Rg.sl u8 5 p data]) (hq : RdL u8 w q row) (hr : RdL u8 w r prior) (oq : Off (fpU [Rg.sl u8 5 p data]) q row) (or_ : Off (fpU [Rg.sl u8 5 p data]) r prior) (hpl : prior = [] ∨ prior.length = row.length) (hl : row.length ≤ 1000000) (hdl : data.length ≤ 100000000) :
  Ret Tryz.prog 42 #[p, q, r] w fun v w' => M w (fpU [Rg.sl u8 5 p data]) w' [Rg.sl u8 5 v (data ++ bst row prior)] := by
 have hM := M.startS hs
 refine enter Tryz.func42 rfl (by kernel_rfl) Tryz.ntmps42 rfl ?_
 refine C.seq <| C.region <| E.asg rfl rfl <| E.nil <| X.next <| C.seq <| C.region <| E.asg rfl rfl <| E.asg rfl rfl <| E.nil <| X.next <| C.seq <| C.region <| E.asg rfl rfl <| E.nil <| X.next <| C.seq <| C.seq <| C.region <| E.mv rfl rfl <| E.nil <| X.next <| C.block <| ?_
 have hM := hM.nil u8 5
 try dsimp only [List.nil_append, List.cons_append] at hM

 refine C.loop2 [(0, _), (1, _), (2, _)] rfl (fun (k : Nat) (vc : Value) => [(7, i64 (bK row prior k : Int)), (8, i64 (lK row prior k)), (9, vc), (14, i64 k)]) (fun (k : Nat) (vc : Value) w' => M w (fpU [Rg.sl u8 5 p data]) w' [Rg.sl u8 5 p data, Rg.sl u8 5 vc (cK row prior k)] ∧ k ≤ 5) (fun (k : Nat) (vc : Value) => 5 - k) 0 nilS ?_ ?_ ?_
 · exact Sub.cons rfl <| Sub.cons rfl <| Sub.cons rfl <| Sub.cons rfl <| Sub.nil _
 · exact ⟨hM, by omega⟩
 rintro k vc w0 ⟨hM, hk⟩
 refine C.seq <| C.region <| E.bin rfl rfl rfl rfl <| E.nil <| X.next <| C.seq <| ?_
 refine C.cond' rfl (fun hC0 => ?_) (fun hC0 => ?_)
 ·
  have hk' : k < 5 := by omega
  have hE : apE (k : Int) row prior = 0 := by
   rw [apE, if_neg (by omega), if_neg (fun h => h.2 (hpl.resolve_left h.1))]
  have hO : apO fil (k : Int) row prior = fil k row prior := by rw [apO, if_pos hE, Int.toNat_natCast]
  have hfl := fil_len k row prior
  refine C.skip <| X.next <| ?_

  refine C.cut1 [(0, _), (1, _), (2, _), (14, _)] rfl (fun (vc2 : Value) => [(7, i64 (bK row prior (k + 1) : Int)), (8, i64 (lK row prior (k + 1))), (9, vc2)]) (fun (vc2 : Value) w' => M w (fpU [Rg.sl u8 5 p data]) w' [Rg.sl u8 5 p data, Rg.sl u8 5 vc2 (cK row prior (k + 1))]) ?_ ?_
  ·
   refine C.block <| C.seq <| C.region <| E.mv rfl rfl <| E.asg rfl rfl <| E.nil <| X.next <| C.seq <| C.region <| E.mv rfl rfl <| E.mv rfl rfl <| E.mv rfl rfl <| ?_
   refine E.call rfl rfl (Filter_ret k q r row prior _ (hM.arg hq oq) (hM.arg hr or_) hl) ?_
   rintro _ w1 ⟨vo, rfl, m⟩
   rw [hO] at m
   have hM := hM.call m
   try dsimp only [Za, Zb, Zc, Zd, repl] at hM
   refine E.mv rfl rfl <| E.ext rfl rfl rfl <| E.ext rfl rfl rfl <| E.asg rfl rfl <| E.asg rfl rfl <| E.nil <| X.next <| C.seq <| C.region <| E.mv rfl rfl <| ?_
   refine E.call rfl rfl (weight_ret vo (fil k row prior) _ (hM.sl 2 rfl) (by omega)) ?_
   rintro _ w2 ⟨rfl, x2⟩
   have hM := hM.ext x2
   try dsimp only [Za, Zb, Zc, Zd, repl] at hM
   refine E.asg rfl rfl <| E.nil <| X.next <| ?_

   refine C.chainE [(0, _), (1, _), (2, _), (7, _), (8, _), (9, _), (10, _), (11, _), (13, _), (14, _)] rfl [(32, .bool (decide (lK row prior k < 0 ∨ (wgt (fil k row prior) : Int) < lK row prior k)))] ?_ ?_
   ·
    refine C.region <| E.mv rfl rfl <| E.bin rfl rfl rfl rfl <| E.mv rfl rfl <| ?_
    refine E.split 28 rfl (fun g28 => ?_) (fun g28 => ?_)
    ·
     try simp only [Ya, Yb, Yc, Yd, Ye, Yf] at g28
     refine E.off rfl rfl rfl rfl <| E.off rfl rfl rfl rfl <| E.off rfl rfl rfl rfl <| E.pick rfl rfl rfl <| E.nil <| X.join0 (Sub.cons (by exact leaf_t (by omega)) <| Sub.nil _) rfl rfl
    ·
     try simp only [Ya, Yb, Yc, Yd, Ye, Yf] at g28
     refine E.on rfl rfl (E.mv rfl rfl ?_)
     refine E.on rfl rfl (E.mv rfl rfl ?_)
     refine E.on rfl rfl (E.bin rfl rfl rfl rfl ?_)
     refine E.pick rfl rfl rfl <| E.nil <| X.join0 (Sub.cons (by exact leaf_d (by omega)) <| Sub.nil _) rfl rfl
   refine C.cond' rfl (fun hC1 => ?_) (fun hC1 => ?_)
   ·
    refine C.region <| E.mv rfl rfl <| E.mv rfl rfl <| E.mv rfl rfl <| E.asg rfl rfl <| E.asg rfl rfl <| E.asg rfl rfl <| E.nil <| X.outN <| ?_
    have hbt := bK_t hC1

    refine X.join1 vo (Sub.cons (look_val rfl (by rw [bK_s, hbt])) <| Sub.cons (look_val rfl (by rw [lK_s, hbt])) <| Sub.cons rfl <| Sub.nil _) rfl (by rw [cK_s, hbt]; exact hM.pick [0, 2] (by decide))
   ·
    refine C.skip <| X.outN <| ?_
    obtain ⟨e1, e2, e3⟩ := bK_f hC1

    refine X.join1 vc (Sub.cons (look_val rfl (by rw [e1])) <| Sub.cons (look_val rfl e2.symm) <| Sub.cons rfl <| Sub.nil _) rfl (by rw [e3]; exact hM.pick [0, 1] (by decide))
  rintro vc2 w3 hM
  refine C.region <| ?_
  refine E.add rfl rfl (by omega) rfl ?_

  refine E.mv rfl rfl <| E.nil <| X.again2 (k + 1) vc2 (Sub.cons rfl <| Sub.cons rfl <| Sub.cons rfl <| Sub.cons rfl <| Sub.nil _) rfl ⟨hM, by omega⟩ (by omega)
 ·
  obtain rfl : k = 5 := by omega
  have hbl := bsk_le row prior 4
  have hfl := fil_len (bsk row prior 4) row prior
  rw [show bK row prior 5 = bsk row prior 4 from rfl]
  rw [show cK row prior 5 = fil (bsk row prior 4) row prior from rfl] at hM
  refine C.exit <| X.exitT <| X.exitT <| X.outE <| X.next <| C.seq <| C.region <| E.mv rfl rfl <| E.mv rfl rfl <| ?_
  refine E.conv rfl Tryz.underlying3 Tryz.underlying5 (c := ((UInt8.ofNat (bsk row prior 4)).toNat : Int)) (wrap8 _) rfl ?_
  refine E.pushM 0 (UInt8.ofNat (bsk row prior 4)) hM rfl rfl rfl Tryz.underlying22 elem_Tuint8 rfl (by omega) (by omega) (by simp) rfl rfl ?_
  intro v41 u41 w4 hM
  try dsimp only [Za, Zb, Zc, Zd, repl] at hM
  refine E.mv rfl rfl <| ?_
  refine E.appendM 0 hM rfl rfl rfl Tryz.underlying22 elem_Tuint8 (hM.sl 1 rfl) (fun _ => rfl) (by rw [List.length_append, List.length_singleton]; omega) (by rw [List.length_append, List.length_singleton]; omega) rfl ?_
  intro v43 w5 hM
  try dsimp only [Za, Zb, Zc, Zd, repl] at hM
  refine E.asg rfl rfl <| E.nil <| X.next <| C.ret <| ret1 rfl rfl ?_
  exact by rw [bst, List.append_cons]; exact hM.pick [0] (by decide)
set_option maxHeartbeats 1000000 in
theorem appendPixels_ret (p q : Value) (pix row : List UInt8) (wd d : Nat) (w : World) (hs : Sep w [Rg.sl u8 5 p pix]) (hq : RdL u8 w q row) (oq : Off (fpU [Rg.sl u8 5 p pix]) q row) (hd : d = 1 ∨ d = 2 ∨ d = 4 ∨ d = 8) (hw : wd ≤ 4096) (hl : (wd * d + 7) / 8 ≤ row.length) (hpl : pix.length ≤ 100000000) :
  Ret Tryz.prog 50 #[p, q, i64 wd, i64 d] w fun v w' => M w (fpU [Rg.sl u8 5 p pix]) w' [Rg.sl u8 5 v (pix ++ vls row wd d)] := by
 have hM := M.startS hs
 refine enter Tryz.func50 rfl (by kernel_rfl) Tryz.ntmps50 rfl ?_
 refine C.seq <| C.region <| E.asg rfl rfl <| E.nil <| X.next <| C.seq <| C.region <| E.mv rfl rfl <| ?_
 refine E.shl (c := ((2 ^ d : Nat) : Int)) rfl rfl (by omega) (by rcases hd with rfl | rfl | rfl | rfl <;> decide) rfl ?_
 have h2d : 2 ≤ 2 ^ d ∧ 2 ^ d ≤ 256 := by rcases hd with rfl | rfl | rfl | rfl <;> decide
 obtain ⟨W, hW⟩ : ∃ W, W = wd * d := ⟨_, rfl⟩
 rw [← hW] at hl
 refine E.subN (a := 2 ^ d) (b := 1) rfl rfl (by omega) rfl ?_
 refine E.asg rfl rfl <| E.nil <| X.next <| C.seq <| C.seq <| C.region <| E.mv rfl rfl <| E.mv rfl rfl <| E.nil <| X.next <| C.block <| ?_

 refine C.loop2 [(1, _), (3, _), (9, _), (16, _)] rfl (fun (x : Nat) (vp : Value) => [(0, vp), (17, i64 x)]) (fun (x : Nat) (vp : Value) w' => M w (fpU [Rg.sl u8 5 p pix]) w' [Rg.sl u8 5 vp (pix ++ tab x (vlk row d))] ∧ x ≤ wd) (fun (x : Nat) (vp : Value) => wd - x) 0 p ?_ ?_ ?_
 · exact Sub.cons rfl <| Sub.cons rfl <| Sub.nil _
 · exact ⟨by rw [tab_zero, List.append_nil]; exact hM, Nat.zero_le _⟩
 rintro x vp w0 ⟨hM, hx⟩
 refine C.seq <| C.region <| E.bin rfl rfl rfl rfl <| E.nil <| X.next <| C.seq <| ?_
 refine C.cond' rfl (fun hC0 => ?_) (fun hC0 => ?_)
 ·
  have hx' : x < wd := by omega
  have hxd : x * d + d ≤ W ∧ x * d % 8 + d ≤ 8 ∧ x * d ≤ 32768 ∧ 1 ≤ d ∧ d ≤ 8 := by
   rw [hW]
   rcases hd with rfl | rfl | rfl | rfl <;> omega
  have hvk : vlk row d x = UInt8.ofNat (255 * (at_ row (x * d / 8) / 2 ^ (8 - d - x * d % 8) % 2 ^ d) / (2 ^ d - 1)) := rfl
  have hln : (pix ++ tab x (vlk row d)).length = pix.length + x := by rw [List.length_append, tab_len]
  refine C.skip <| X.next <| C.seq <| C.block <| C.seq <| C.region <| E.mv rfl rfl <| E.asg rfl rfl <| E.nil <| X.next <| C.seq <| C.region <| E.mv rfl rfl <| E.mv rfl rfl <| ?_
  refine E.mulN (a := x) (b := d) rfl rfl (by omega) rfl ?_
  obtain ⟨a, ha⟩ : ∃ a, a = x * d := ⟨_, rfl⟩
  rw [← ha] at hxd hvk ⊢
  refine E.asg rfl rfl <| E.nil <| X.next <| C.seq <| C.region <| E.mv rfl rfl <| E.mv rfl rfl <| ?_
  refine E.quo rfl rfl (by omega) (IntWalk.i64_quo _ _ (by omega)) rfl ?_
  refine E.get (k := a / 8) rfl rfl (hM.arg hq oq) (by omega) (by omega) Tryz.underlying22 (by kernel_rfl) Tryz.underlying5 rfl rfl rfl ?_
  rw [u8c, at_get (show a / 8 < row.length by omega)]
  have hal := at_le row (a / 8)
  refine E.conv rfl Tryz.underlying5 Tryz.underlying3 (IntWalk.i64_in _ (by omega)) rfl ?_
  refine E.mv rfl rfl <| ?_
  refine E.subN (a := 8) (b := d) rfl rfl (by omega) rfl ?_
  refine E.mv rfl rfl <| ?_
  refine E.rem rfl rfl (by omega) (remN (a := a) (b := 8)) rfl ?_
  refine E.subN (a := 8 - d) (b := a % 8) rfl rfl (by omega) rfl ?_
  refine E.shr rfl rfl (by omega) (shr_i64 (v := at_ row (a / 8)) (k := 8 - d - a % 8) (by omega)) rfl ?_
  obtain ⟨u, hu⟩ : ∃ u, u = at_ row (a / 8) / 2 ^ (8 - d - a % 8) := ⟨_, rfl⟩
  have hul : u ≤ 255 := by rw [hu]; exact Nat.le_trans (Nat.div_le_self _ _) hal
  rw [← hu] at hvk ⊢
  refine E.mv rfl rfl <| ?_
  refine E.binw rfl rfl rfl (congrArg _ (and_mask (v := u) (d := d) hul (by omega))) rfl ?_
  obtain ⟨z, hz⟩ : ∃ z, z = u % 2 ^ d := ⟨_, rfl⟩
  have hzl : z ≤ 255 := by rw [hz]; exact Nat.le_trans (Nat.mod_le _ _) hul
  rw [← hz] at hvk ⊢
  refine E.asg rfl rfl <| E.nil <| X.next <| C.region <| E.mv rfl rfl <| E.mv rfl rfl <| ?_
  refine E.mulN (a := 255) (b := z) rfl rfl (by omega) rfl ?_
  refine E.mv rfl rfl <| ?_
  refine E.quo rfl rfl (by omega) (IntWalk.i64_quo _ _ (by omega)) rfl ?_
  refine E.conv rfl Tryz.underlying3 Tryz.underlying5 (c := ((vlk row d x).toNat : Int)) (by rw [hvk, ← Int.natCast_ediv]; exact wrap8 _) rfl ?_
  refine E.pushM 0 (vlk row d x) hM rfl rfl rfl Tryz.underlying22 elem_Tuint8 rfl (by omega) (by omega) (by simp) rfl rfl ?_
  intro v44 u44 w1 hM
  try dsimp only [Za, Zb, Zc, Zd, repl] at hM
  refine E.asg rfl rfl <| E.nil <| X.outN <| X.next <| C.region <| ?_
  refine E.add rfl rfl (by omega) rfl ?_
  refine E.mv rfl rfl <| E.nil <| ?_
  rw [List.append_assoc, ← tab_succ] at hM

  refine X.again2 (x + 1) _ (Sub.cons rfl <| Sub.cons rfl <| Sub.nil _) rfl ⟨hM.pick [0] (by decide), by omega⟩ (by omega)
 ·
  obtain rfl : x = wd := by omega
  refine C.exit <| X.exitT <| X.exitT <| X.outE <| X.next <| C.seq <| C.region <| E.mv rfl rfl <| E.asg rfl rfl <| E.nil <| X.next <| C.ret <| ret1 rfl rfl ?_
  exact hM
end Go.Proofs.YtplbgehpohdmdaaGreatDoor
namespace Go.Proofs.YtplbgehpohdmdaaGreatDoor
open Go.RowKit Sym Go.ChangeShapes Go.WideShapes Go.ChangeAt
theorem hd_shape {w : World} {v : Value} {l : List UInt8} (h : RdL u8 w v l) : ∃ x : Hd, v = slv x := by
 obtain ⟨a, cap, hv, _⟩ := h; exact ⟨(a, _, cap), hv⟩
set_option maxRecDepth 100000 in
theorem arg_chunks {W : World} {r : Reach} {b0 : Nat} {v : Value} (hv : Value.okWide Tryz.prog W r b0 24 v) (h : Trd Tryz.prog W 24 v.cells.toList) : ∃ (hs : List Hd) (l : List Pg.Ck), Cks W v hs l := by
  rw [arg_slice Tryz.underlying24 hv] at h
  obtain ⟨v', xs, e, rd, hR⟩ := h.sliceF (sz := 2) (enc := fun a : Pg.Ck × Hd => cke (a.1.1, a.2)) (R := fun a => RdL u8 W (slv a.2) a.1.2) Tryz.underlying24 (by kernel_rfl) (by decide) (fun c hl hc => by
    obtain ⟨_, hf⟩ := hc.struct Tryz.underlying46
    obtain ⟨a0, t0, rfl, hl0⟩ := split1 (n := 1) hl
    obtain ⟨a1, t1, rfl, hl1⟩ := split1 (n := 0) hl0
    obtain rfl := List.length_eq_zero_iff.1 hl1
    obtain ⟨s0, e0, _⟩ := (show Trd Tryz.prog W 9 [a0] from hf 0 _ rfl).string Tryz.underlying9
    obtain ⟨v1, l1, e1, r1⟩ := (show Trd Tryz.prog W 22 [a1] from hf 1 _ rfl).bytes Tryz.underlying22 Tryz.underlying5 (by kernel_rfl)
    obtain rfl : a0 = .string s0 := by simpa using e0
    obtain rfl : a1 = v1 := by simpa using e1
    obtain ⟨x1, rfl⟩ := hd_shape r1
    exact ⟨((s0.data.toList, l1), x1), rfl, r1⟩)
  obtain rfl : v = v' := by simpa using e
  refine ⟨xs.map (·.2), xs.map (·.1), ⟨?_, ?_⟩⟩
  · have hz : zc (xs.map (·.1)) (xs.map (·.2)) = xs.map (fun a => (a.1.1, a.2)) := by
      clear e rd hR
      induction xs with
      | nil => rfl
      | cons a xs ih => rw [List.map_cons, List.map_cons, List.map_cons, ← ih]; rfl
    rw [hz]
    refine ⟨fun a ha => rfl, ?_⟩
    have := rd.2
    rw [List.length_map, List.flatMap_map]; exact this
  · refine ⟨by simp, fun i x l hx hl => ?_⟩
    rw [List.getElem?_map] at hx
    rw [List.map_map, List.getElem?_map] at hl
    obtain ⟨a, ha, rfl⟩ := Option.map_eq_some_iff.1 hx
    rw [ha] at hl
    simp at hl
    rw [← hl]
    exact hR a (List.mem_of_getElem? ha)
end Go.Proofs.YtplbgehpohdmdaaGreatDoor
namespace Go.Proofs.YtplbgehpohdmdaaGreatDoor
open Go.RowKit Sym
open Pg
theorem Sym.E.mkFM {α : Type} {enc : α → List Value} {sz : Nat} {P : Program} {ops : Array Oper} {Q : Exit → Act → World → Prop} {s : St} {env : Env} {w0 w : World} {S : Nat → Prop} {rs : List Rg} {rest : List Oper} {d : Nat} {ty : TypeId} {pos : String} {aft : Array Edge} {t e : TypeId} {n : Nat} {xs : List (Nat × Operand)} {vs : List (Nat × Value)} (l : List α) (hM : M w0 S w rs) (hx : evp env xs = some vs) (hb : ∀ w, (Instr.buildSlice t n vs.toArray).run P w = .ok (.slice (some ⟨w.heap.size, 0, none⟩) n n) (w.alloc (.cells (l.flatMap enc).toArray e))) (hn : l.length = n) (hs : n ≤ 1000000) (hsz : ∀ a ∈ l, (enc a).length = sz)
  (hd : Nat.blt d s.n = true) (h : ∀ v w', M w0 S w' (rs ++ [Rg.slF enc sz e v l]) → wpE P ops Q s rest ((d, v) :: env) w') : wpE P ops Q s (⟨some d, .buildSlice t n xs.toArray, ty, pos, aft, none⟩ :: rest) env w := by
 subst hn
 have hfl : (l.flatMap enc).length = l.length * sz := by
  clear hb h hs
  induction l with
  | nil => simp
  | cons a l ih => rw [List.flatMap_cons, List.length_append, hsz a (by simp), ih (fun b hb => hsz b (by simp [hb])), List.length_cons, Nat.add_mul, Nat.one_mul, Nat.add_comm]
 refine E.buildS hx hb hd (h _ _ (hM.new (Ext.new w _) (r := Rg.slF enc sz e _ l) ⟨hsz, hfl, .inr ⟨w.heap.size, l.length, (l.flatMap enc).toArray, rfl, Nat.zero_le _, heap_alloc_new w _, Nat.le_refl _, by unfold maxLen; omega, by simpa using hfl, by simp [List.take_of_length_le, hfl]⟩⟩ (fun k hk => by cases hk; exact Nat.le_refl _)))
theorem dep_8 {pix : List UInt8} {i : Nat} (hi : i < pix.length) (h : (pix[i]).toNat ≠ 0 ∧ (pix[i]).toNat ≠ 255) : dep pix = 8 := by
 unfold dep
 rw [if_neg]
 intro k
 rcases k _ (List.getElem_mem hi) with e | e
 · exact h.1 (by rw [e]; rfl)
 · exact h.2 (by rw [e]; rfl)
theorem dep_1 {pix : List UInt8} (h : ∀ x ∈ pix, x = 0 ∨ x = 255) : dep pix = 1 := by unfold dep; rw [if_pos h]
theorem pix_ok {x : UInt8} (h : ¬ (x.toNat ≠ 0 ∧ x.toNat ≠ 255)) : x = 0 ∨ x = 255 := by
 by_cases e : x.toNat = 0
 · exact .inl (UInt8.toNat_inj.1 e)
 · exact .inr (UInt8.toNat_inj.1 (Decidable.byContradiction fun k => h ⟨e, k⟩))
theorem bag3 {w : World} {x y z : Hd} {a b c : List UInt8} (h1 : RdL u8 w (slv x) a) (h2 : RdL u8 w (slv y) b) (h3 : RdL u8 w (slv z) c) : Bag w [x, y, z] [a, b, c] := ⟨rfl, fun i h l hh hl => by
 match i with
 | 0 => simp at hh hl; subst hh hl; exact h1
 | 1 => simp at hh hl; subst hh hl; exact h2
 | 2 => simp at hh hl; subst hh hl; exact h3
 | i + 3 => simp at hh⟩
theorem Wrap2_ret (p : Value) (l : List UInt8) (w : World) (hp : RdL u8 w p l) (hl : l.length ≤ 32768) (hO : Ord w) :
  Ret Tryz.prog 43 #[p, i64 2] w fun v w' => ∃ vo, v = .tuple #[vo, i64 0] ∧ M w Nn w' [Rg.sl u8 5 vo (Df.wrv l 2)] :=
 (Wrap_ret p l 2 w hp hl hO).mono fun v w' ⟨vo, h, m⟩ => ⟨vo, by rw [h, if_neg (by omega)], m⟩
theorem rdl_nil {w : World} : RdL u8 w (slv (none, 0, 0)) [] := by
 exact (OwnL.nil u8 w 0 0).rd
set_option maxHeartbeats 4000000 in
set_option maxRecDepth 4000 in
theorem Write_ret (W H : Int) (vp : Value) (pix : List UInt8) (w : World) (hp : RdL u8 w vp pix) (hsm : pix.length ≤ 3000) (hO : Ord w) :
  Ret Tryz.prog 23 #[imv W H vp] w fun v w' => ∃ (vo : Value) (out : List UInt8) (e : Int), v = .tuple #[vo, i64 e] ∧ M w Nn w' [Rg.sl u8 5 vo out] ∧ ((vld W H pix.length ∧ e = 0 ∧ out = wri W.toNat H.toNat pix) ∨ (¬ vld W H pix.length ∧ e = 1 ∧ out = [])) := by
 have hM := M.start w
 refine enter Tryz.func23 rfl (by kernel_rfl) Tryz.ntmps23 rfl ?_
 refine C.seq <| C.region <| ?_
 refine E.boxM hM rfl rfl rfl ?_
 intro b1 w0 hM
 try dsimp only [Za, Zb, Zc, Zd, repl] at hM
 refine E.asg rfl rfl <| E.asg rfl rfl <| E.nil <| X.next <| C.seq <| C.seq <| C.region <| ?_
 refine E.loadA (cs := [i64 W, i64 H, vp]) rfl Tryz.underlying36 rfl (by kernel_rfl) (hM.bat 0 rfl) rfl ?_
 refine E.call rfl rfl (CheckImage_ret W H vp pix _ (hM.arg0 hp)) ?_
 rintro _ w1 ⟨rfl, x1⟩
 have hM := hM.ext x1
 try dsimp only [Za, Zb, Zc, Zd, repl] at hM
 refine E.asg rfl rfl <| E.nil <| X.next <| C.seq <| C.region <| E.mv rfl rfl <| E.bin rfl rfl rfl rfl <| E.nil <| X.next <| ?_
 refine C.cond' rfl (fun hC0 => ?_) (fun hC0 => ?_)
 ·
  have hnv : ¬ vld W H pix.length := fun h => hC0 (by rw [if_pos h])
  refine C.seq <| C.region <| E.mv rfl rfl <| E.asg rfl rfl <| E.asg rfl rfl <| E.nil <| X.next <| C.ret <| X.retT <| ret2 rfl rfl rfl ?_
  exact ⟨nilS, [], 1, by rw [if_neg hnv], (hM.pick [] (by decide)).nil u8 5, .inr ⟨hnv, rfl, rfl⟩⟩
 ·
  have hv : vld W H pix.length := Decidable.byContradiction fun h => hC0 (by rw [if_neg h]; decide)
  obtain ⟨v1, v2, v3, v4, v5, v6⟩ := id hv
  obtain ⟨wd, rfl⟩ : ∃ n : Nat, W = (n : Int) := ⟨W.toNat, by omega⟩
  obtain ⟨ht, rfl⟩ : ∃ n : Nat, H = (n : Int) := ⟨H.toNat, by omega⟩
  have hn : pix.length = wd * ht := Int.ofNat.inj (v6.trans (Int.natCast_mul wd ht).symm)
  have hd : dep pix = 8 ∨ dep pix = 1 := (dep_cases pix).imp id (fun h => h.1)
  obtain ⟨s1, s2, s3, s4⟩ := dta_small hn (by omega) hsm (by omega)
  have hdl := dta_len (d := dep pix) hn hd
  refine C.skip <| X.next <| C.seq <| C.region <| E.asg rfl rfl <| E.nil <| X.next <| ?_

  refine C.cut0 [(1, _)] rfl [(5, i64 (dep pix : Int))] (fun w' => M w (Nn) w' [Rg.blk b1 36 [i64 (wd : Int), i64 (ht : Int), vp]]) ?_ ?_
  ·
   refine C.seq <| C.region <| ?_
   refine E.fld (o := 2) (sz := 0) rfl Tryz.underlying36 rfl rfl (by kernel_rfl) rfl ?_
   refine E.load rfl Tryz.underlying22 rfl (hM.bcell 0 rfl rfl) rfl ?_
   refine E.lenv rfl (Rd.shape (hM.arg0 hp)) Tryz.underlying22 rfl ?_
   refine E.mv rfl rfl <| E.nil <| X.next <| C.block <| ?_

   refine C.loop1 [(1, _), (20, _), (21, _)] rfl (fun (i : Nat) => [(5, i64 1), (22, i64 i)]) (fun (i : Nat) w' => M w (Nn) w' [Rg.blk b1 36 [i64 (wd : Int), i64 (ht : Int), vp]] ∧ i ≤ pix.length ∧ ∀ x ∈ pix.take i, x = 0 ∨ x = 255) (fun (i : Nat) => pix.length - i) 0 ?_ ?_ ?_
   · exact Sub.cons rfl <| Sub.cons rfl <| Sub.nil _
   · exact ⟨hM, Nat.zero_le _, fun x hx => by simp at hx⟩
   rintro i w2 ⟨hM, hi, hall⟩
   refine C.seq <| C.region <| E.bin rfl rfl rfl rfl <| E.nil <| X.next <| C.seq <| ?_
   refine C.cond' rfl (fun hC1 => ?_) (fun hC1 => ?_)
   ·
    have hi' : i < pix.length := by omega
    refine C.skip <| X.next <| C.seq <| C.block <| C.seq <| C.region <| ?_
    refine E.get (k := i) rfl rfl (hM.arg0 hp) rfl (by omega) Tryz.underlying22 (by kernel_rfl) Tryz.underlying5 rfl rfl rfl ?_
    rw [u8c]
    refine E.asg rfl rfl <| E.nil <| X.next <| ?_

    refine C.chainE [(1, _), (5, _), (20, _), (21, _), (22, _)] rfl [(31, .bool (decide ((pix[i]).toNat ≠ 0 ∧ (pix[i]).toNat ≠ 255)))] ?_ ?_
    ·
     refine C.region <| E.mv rfl rfl <| E.bin rfl rfl rfl rfl <| E.mv rfl rfl <| ?_
     refine E.split 28 rfl (fun g28 => ?_) (fun g28 => ?_)
     ·
      try simp only [Ya, Yb, Yc, Yd, Ye, Yf] at g28
      refine E.on rfl rfl (E.mv rfl rfl ?_)
      refine E.on rfl rfl (E.bin rfl rfl rfl rfl ?_)
      refine E.pick rfl rfl rfl <| E.nil <| X.join0 (Sub.cons (look_eq rfl (congrArg Value.bool (by exact decide_eq_decide.2 ⟨fun h => by omega, fun h => by omega⟩))) <| Sub.nil _) rfl rfl
     ·
      try simp only [Ya, Yb, Yc, Yd, Ye, Yf] at g28
      refine E.off rfl rfl rfl rfl <| E.off rfl rfl rfl rfl <| E.pick rfl rfl rfl <| E.nil <| X.join0 (Sub.cons (look_eq rfl (congrArg Value.bool (by exact (decide_eq_false (p := (pix[i]).toNat ≠ 0 ∧ (pix[i]).toNat ≠ 255) (by omega)).symm))) <| Sub.nil _) rfl rfl
    refine C.cond' rfl (fun hC2 => ?_) (fun hC2 => ?_)
    ·

     refine C.seq <| C.region <| E.asg rfl rfl <| E.nil <| X.next <| C.exit <| X.outNe rfl <| X.exitT <| X.exitT <| X.outE <| X.join0  (Sub.cons (look_val rfl (by rw [dep_8 hi' hC2]; rfl)) <| Sub.nil _) rfl hM
    ·
     refine C.skip <| X.outN <| X.next <| C.region <| ?_
     refine E.add rfl rfl (by omega) rfl ?_

     refine E.mv rfl rfl <| E.nil <| X.again1 (i + 1) (Sub.cons rfl <| Sub.cons rfl <| Sub.nil _) rfl ⟨hM, by omega, all_takeN hi' hall (pix_ok hC2)⟩ (by omega)
   ·
    obtain rfl : i = pix.length := by omega
    rw [List.take_length] at hall

    refine C.exit <| X.exitT <| X.exitT <| X.outE <| X.join0  (Sub.cons (look_val rfl (by rw [dep_1 hall]; rfl)) <| Sub.nil _) rfl hM
  rintro  w3 hM
  refine C.seq <| C.region <| E.asg rfl rfl <| E.asg rfl rfl <| E.nil <| X.next <| C.seq <| C.seq <| C.region <| ?_
  refine E.fld (o := 1) (sz := 0) rfl Tryz.underlying36 rfl rfl (by kernel_rfl) rfl ?_
  refine E.load rfl Tryz.underlying3 rfl (hM.bcell 0 rfl rfl) rfl ?_
  refine E.mv rfl rfl <| E.nil <| X.next <| C.block <| ?_
  have hM := (hM.nil u8 5).nil u8 5
  try dsimp only [List.nil_append, List.cons_append] at hM

  refine C.loop3 [(1, _), (5, _), (34, _)] rfl (fun (y : Nat) (vd : Value) (vq : Value) => [(8, vd), (9, vq), (35, i64 y)]) (fun (y : Nat) (vd : Value) (vq : Value) w' => M w (Nn) w' [Rg.blk b1 36 [i64 (wd : Int), i64 (ht : Int), vp], Rg.sl u8 5 vd (dta pix wd (dep pix) y), Rg.sl u8 5 vq (pri pix wd (dep pix) y)] ∧ y ≤ ht) (fun (y : Nat) (vd : Value) (vq : Value) => ht - y) 0 nilS nilS ?_ ?_ ?_
  · exact Sub.cons rfl <| Sub.cons rfl <| Sub.cons rfl <| Sub.nil _
  · exact ⟨hM, Nat.zero_le _⟩
  rintro y vd vq w4 ⟨hM, hy⟩
  refine C.seq <| C.region <| E.bin rfl rfl rfl rfl <| E.nil <| X.next <| C.seq <| ?_
  refine C.cond' rfl (fun hC3 => ?_) (fun hC3 => ?_)
  ·
   have hy' : y < ht := by omega
   have hm1 := mul_le (w := wd) (y := y) (h := ht) (by omega)
   have hm2 : (y + 1) * wd = y * wd + wd := by rw [Nat.add_mul, Nat.one_mul]
   have hcl := cutw_len hn hy'
   have hpl := prow_len hn hy' hd
   have hpp : pri pix wd (dep pix) y = [] ∨ (pri pix wd (dep pix) y).length = (prow pix wd (dep pix) y).length := by
    cases y with
    | zero => exact .inl rfl
    | succ y => exact .inr (by rw [hpl]; exact prow_len hn (by omega) hd)
   have hdy := hdl y (by omega)
   have hdm : y * wid wd (dep pix) ≤ ht * wid wd (dep pix) := Nat.mul_le_mul_right _ hy
   refine C.skip <| X.next <| C.seq <| C.block <| C.seq <| C.region <| E.mv rfl rfl <| E.asg rfl rfl <| E.nil <| X.next <| C.seq <| C.region <| ?_
   refine E.fld (o := 2) (sz := 0) rfl Tryz.underlying36 rfl rfl (by kernel_rfl) rfl ?_
   refine E.load rfl Tryz.underlying22 rfl (hM.bcell 0 rfl rfl) rfl ?_
   refine E.mv rfl rfl <| ?_
   refine E.fld (o := 0) (sz := 0) rfl Tryz.underlying36 rfl rfl (by kernel_rfl) rfl ?_
   refine E.load rfl Tryz.underlying3 rfl (hM.bcell 0 rfl rfl) rfl ?_
   refine E.mulN (a := y) (b := wd) rfl rfl (by omega) rfl ?_
   refine E.mv rfl rfl <| ?_
   refine E.addN (a := y) (b := 1) rfl rfl (by omega) rfl ?_
   refine E.fld (o := 0) (sz := 0) rfl Tryz.underlying36 rfl rfl (by kernel_rfl) rfl ?_
   refine E.load rfl Tryz.underlying3 rfl (hM.bcell 0 rfl rfl) rfl ?_
   refine E.mulN (a := y + 1) (b := wd) rfl rfl (by omega) rfl ?_
   refine E.slcP (y * wd) ((y + 1) * wd) rfl (.inl rfl) (.inl rfl) (hM.arg0 hp) Tryz.underlying22 (by kernel_rfl) (by omega) (by omega) rfl ?_
   refine E.mv rfl rfl <| ?_
   refine E.call rfl rfl (pack_ret _ (cutL (y * wd) ((y + 1) * wd) pix) (dep pix) _ ((hM.arg0 hp).partV (by omega) (by omega)) (by omega) (by omega)) ?_
   rintro v51 w5 m
   have hM := hM.call m
   try dsimp only [Za, Zb, Zc, Zd, repl] at hM
   refine E.asg rfl rfl <| E.nil <| X.next <| C.seq <| C.region <| E.mv rfl rfl <| E.mv rfl rfl <| E.mv rfl rfl <| ?_
   refine E.call rfl rfl (appendBest_ret vd v51 vq (dta pix wd (dep pix) y) (prow pix wd (dep pix) y) (pri pix wd (dep pix) y) _ (hM.sep1 1 rfl) (hM.sl 3 rfl) (hM.sl 2 rfl) (hM.offSl 3 1 (by decide) rfl rfl) (hM.offSl 2 1 (by decide) rfl rfl) hpp (by rw [hpl]; rcases hd with e | e <;> rw [e] <;> omega) (by omega)) ?_
   rintro v55 w6 m
   have hM := hM.call1 1 rfl (by simp) m
   try dsimp only [Za, Zb, Zc, Zd, repl] at hM
   refine E.asg rfl rfl <| E.nil <| X.next <| C.region <| E.mv rfl rfl <| E.asg rfl rfl <| E.nil <| X.outN <| X.next <| C.region <| ?_
   refine E.add rfl rfl (by omega) rfl ?_

   refine E.mv rfl rfl <| E.nil <| X.again3 (y + 1) _ _ (Sub.cons rfl <| Sub.cons rfl <| Sub.cons rfl <| Sub.nil _) rfl ⟨hM.pick [0, 1, 3] (by decide), by omega⟩ (by omega)
  ·
   obtain rfl : y = ht := by omega
   refine C.exit <| X.exitT <| X.exitT <| X.outE <| X.next <| C.seq <| C.region <| E.mv rfl rfl <| ?_
   refine E.call rfl rfl (Wrap2_ret vd (dta pix wd (dep pix) y) _ (hM.sl 1 rfl) (by omega) (hM.ord0 hO)) ?_
   rintro _ w7 ⟨v60, rfl, m⟩
   have hM := hM.call m
   try dsimp only [Za, Zb, Zc, Zd, repl] at hM
   obtain ⟨x60, rfl⟩ := own_head (hM.own 3 rfl)
   try dsimp only [Za, Zb, Zc, Zd, repl] at hM
   refine E.mv rfl rfl <| E.ext rfl rfl rfl <| E.ext rfl rfl rfl <| E.asg rfl rfl <| E.asg rfl rfl <| E.nil <| X.next <| C.seq <| C.seq <| C.region <| E.mv rfl rfl <| E.bin rfl rfl rfl rfl <| E.nil <| X.next <| ?_
   refine C.cond' rfl (fun hC4 => ?_) (fun hC4 => ?_)
   ·
    exact absurd rfl hC4
   ·
    refine C.skip <| X.next <| C.seq <| C.heldE (by kernel_rfl) fun wh8 hwh8 _ => ?_
    have hS := hwh8
    have hM0 := hM
    have hM := M.ofExt hwh8
    refine H.takeV 0 rfl rfl (by kernel_rfl) (by kernel_rfl) (by kernel_rfl) hS (Y.fld (o := 0) (sz := 0) rfl Tryz.underlying36 rfl rfl (by kernel_rfl)) (fun w' hS => by have hM := hM0.ext hS; exact Y.fld (o := 0) (sz := 0) rfl Tryz.underlying36 rfl rfl (by kernel_rfl)) rfl ?_
    refine H.takeV 3 rfl rfl (by kernel_rfl) (by kernel_rfl) (by kernel_rfl) hS (Y.fld (o := 1) (sz := 0) rfl Tryz.underlying36 rfl rfl (by kernel_rfl)) (fun w' hS => by have hM := hM0.ext hS; exact Y.fld (o := 1) (sz := 0) rfl Tryz.underlying36 rfl rfl (by kernel_rfl)) rfl ?_
    refine H.takeV 1 rfl rfl (by kernel_rfl) (by kernel_rfl) (by kernel_rfl) hS (Y.load rfl Tryz.underlying3 rfl (by exact (hM0.ext hS).bcell 0 rfl rfl)) (fun w' hS => by have hM := hM0.ext hS; exact Y.load rfl Tryz.underlying3 rfl (by exact hM.bcell 0 rfl rfl)) rfl ?_
    refine H.takeV 4 rfl rfl (by kernel_rfl) (by kernel_rfl) (by kernel_rfl) hS (Y.load rfl Tryz.underlying3 rfl (by exact (hM0.ext hS).bcell 0 rfl rfl)) (fun w' hS => by have hM := hM0.ext hS; exact Y.load rfl Tryz.underlying3 rfl (by exact hM.bcell 0 rfl rfl)) rfl ?_
    refine H.only 2 rfl (by kernel_rfl) ?_
    have hM := hM.nil u8 5
    try dsimp only [List.nil_append, List.cons_append] at hM
    refine E.call rfl rfl (gappend_ret nilS [] wd _ (hM.sep1 0 rfl) (by omega) (by simp)) ?_
    rintro v68 w9 m
    have hM := hM.call1 0 rfl (by simp) m
    try dsimp only [Za, Zb, Zc, Zd, repl] at hM
    have hS := hM.toExt
    refine H.back hS ?_
    refine H.only 5 rfl (by kernel_rfl) ?_
    refine E.call rfl rfl (gappend_ret v68 ([] ++ Jn.enc4 wd) y _ (hM.sep1 0 rfl) (by omega) (by simp [Jn.enc4_len])) ?_
    rintro v71 w10 m
    have hM := hM.call1 0 rfl (by simp) m
    try dsimp only [Za, Zb, Zc, Zd, repl] at hM
    have hS := hM.toExt
    refine H.back hS ?_
    refine H.take 6 rfl rfl (by kernel_rfl) (by kernel_rfl) (by kernel_rfl) hS (fun w' hS => by have hM := hM0.ext hS; exact Y.asg rfl) rfl ?_
    refine H.done (by kernel_rfl) ?_
    have hM := hM0.call hM
    refine X.next <| C.seq <| C.region <| E.mv rfl rfl <| E.mv rfl rfl <| ?_
    refine E.conv rfl Tryz.underlying3 Tryz.underlying5 (c := ((UInt8.ofNat (dep pix)).toNat : Int)) (wrap8 _) rfl ?_
    refine E.mkM (enc := u8) (e := 5) [UInt8.ofNat (dep pix), 0, 0, 0, 0] hM rfl (fun _ => by kernel_rfl) rfl rfl rfl ?_
    intro v75 w11 hM
    try dsimp only [Za, Zb, Zc, Zd, repl] at hM
    refine E.appendM 4 hM rfl rfl rfl Tryz.underlying22 elem_Tuint8 (hM.sl 5 rfl) (fun _ => rfl) (by simp [Jn.enc4_len]) (by simp [Jn.enc4_len]) rfl ?_
    intro v76 w12 hM
    try dsimp only [Za, Zb, Zc, Zd, repl] at hM
    obtain ⟨x76, rfl⟩ := own_head (hM.own 4 rfl)
    refine E.asg rfl rfl <| E.nil <| X.next <| C.seq <| C.region <| E.mv rfl rfl <| ?_
    refine E.buildC (cs := [_, _]) [.string .empty, .slice none 0 0] [0, 1] rfl rfl (by kernel_rfl) rfl ?_
    refine E.mv rfl rfl <| ?_
    refine E.buildC (cs := [_, _]) [.string .empty, .slice none 0 0] [0, 1] rfl rfl (by kernel_rfl) rfl ?_
    refine E.buildC (cs := [_, _]) [.string .empty, .slice none 0 0] [0] rfl rfl (by kernel_rfl) rfl ?_
    refine E.mkFM (enc := cke) (sz := 2) (e := 46) (zc (wck wd y pix) [x76, x60, (none, 0, 0)]) hM rfl (fun _ => by kernel_rfl) rfl (by decide) (fun a ha => rfl) rfl ?_
    intro v82 w82 hM
    try dsimp only [Za, Zb, Zc, Zd, repl] at hM
    have hwl := wrv_len (pix := pix) (w := wd) (h := y) (by omega)
    have hbb : ∀ c ∈ wck wd y pix, c.1.length ≤ 1000000 ∧ c.2.length ≤ 4194304 := fun c hc => by
     have : c = (tH, hdr wd y (dep pix)) ∨ c = (tD, Df.wrv (dta pix wd (dep pix) y) 2) ∨ c = (tE, []) := by simpa [wck] using hc
     rcases this with rfl | rfl | rfl
     · exact ⟨by simp [tH], by rw [hdr_len]; decide⟩
     · exact ⟨by simp [tD], by show (Df.wrv (dta pix wd (dep pix) y) 2).length ≤ _; omega⟩
     · exact ⟨by decide, by decide⟩
    refine E.call rfl rfl (Join_ret _ [x76, x60, (none, 0, 0)] (wck wd y pix) _ ⟨hM.slF 6 rfl, bag3 (hM.sl 4 rfl) (hM.sl 3 rfl) rdl_nil⟩ hbb) ?_
    rintro _ w12 ⟨v83, out, e, rfl, m, hj⟩
    have hM := hM.call m
    rw [wck_jn (by omega)] at hj
    obtain ⟨rfl, rfl⟩ : 0 = e ∧ wri wd y pix = out := by
     rcases hj with ⟨h1, h2⟩ | ⟨_, h2, _⟩
     · cases h2; exact ⟨h1.symm, rfl⟩
     · cases h2
    try dsimp only [Za, Zb, Zc, Zd, repl] at hM
    refine E.ext rfl rfl rfl <| E.ext rfl rfl rfl <| E.asg rfl rfl <| E.asg rfl rfl <| E.nil <| X.next <| C.ret <| ret2 rfl rfl rfl ?_
    exact ⟨v83, _, 0, rfl, hM.pick [7] (by decide), .inl ⟨hv, rfl, by rw [Int.toNat_natCast, Int.toNat_natCast]⟩⟩
end Go.Proofs.YtplbgehpohdmdaaGreatDoor
