/- Texts of the claim, laid together: FdR, Fd13, SymI, Fd14, FdW, Fd15, FdP. -/
import Derived.RangeFuncNested
import Derived.RangeFuncBound
import Derived.RangeFuncCalls
import Derived.RangeFuncLeaves
import Derived.RangeFuncWrites
import Derived.RangeFuncBox
import Derived.Shelf.Abstract
import Derived.WalkKit
import Derived.OwnWalkIn
import Derived.TacticsInMore
import Derived.LoopNIn
import Derived.LoopIn
import Derived.Maps.AppendAt
import Derived.Test.Ytbinlkobmlebpaax0
import Derived.Test.Ytbinlkobmlebpaax4
import Derived.Test.Ytbinlkobmlebpaax13
set_option linter.unusedSimpArgs false
set_option linter.unusedVariables false
namespace Go.Proofs.Ytbinlkobmlebpaa
open Go.RowKit Sym
namespace Fi
def lft : List Bool → Nat
 | [] => 0
 | true :: _ => 0
 | false :: r => lft r + 1
theorem lft_spec : ∀ row : List Bool, lft row ≤ row.length ∧ (∀ j, j < lft row → row.getD j false = false) ∧ (lft row < row.length → row.getD (lft row) false = true)
  | [] => ⟨Nat.le_refl _, fun j h => absurd h (Nat.not_lt_zero _), fun h => absurd h (Nat.not_lt_zero _)⟩
  | true :: r => ⟨Nat.zero_le _, fun j h => absurd h (Nat.not_lt_zero _), fun _ => rfl⟩
  | false :: r => by
    obtain ⟨h1, h2, h3⟩ := lft_spec r
    refine ⟨by simp [lft]; exact h1, fun j hj => ?_, fun h => ?_⟩
    · cases j with
      | zero => rfl
      | succ j => exact h2 j (by simp [lft] at hj; omega)
    · exact h3 (by simp [lft] at h; omega)
def rgt (row : List Bool) : Nat := lft row.reverse
def MarP (row : List Bool) (l r : Nat) : Prop := l ≤ row.length ∧ (∀ j, j < l → row.getD j false = false) ∧ (l < row.length → row.getD l false = true) ∧
 r ≤ row.length ∧ (∀ j, j < r → row.getD (row.length - 1 - j) false = false) ∧ (r < row.length → row.getD (row.length - 1 - r) false = true)
theorem rev_getD {row : List Bool} {j : Nat} (h : j < row.length) : row.reverse.getD j false = row.getD (row.length - 1 - j) false := by
 rw [List.getD_eq_getElem?_getD, List.getD_eq_getElem?_getD, List.getElem?_reverse h]
theorem mar_spec (row : List Bool) : MarP row (lft row) (rgt row) := by
 obtain ⟨h1, h2, h3⟩ := lft_spec row
 obtain ⟨k1, k2, k3⟩ := lft_spec row.reverse
 rw [List.length_reverse] at k1 k3
 exact ⟨h1, h2, h3, k1, fun j hj => by rw [← rev_getD (by unfold rgt at hj; omega)]; exact k2 j hj, fun h => by rw [← rev_getD h]; exact k3 h⟩
theorem mar_one {row : List Bool} {l r : Nat} (h : MarP row l r) : l = lft row ∧ r = rgt row := by
  obtain ⟨a1, a2, a3, a4, a5, a6⟩ := h
  obtain ⟨b1, b2, b3, b4, b5, b6⟩ := mar_spec row
  constructor
  · rcases Nat.lt_trichotomy l (lft row) with e | e | e
    · have := a3 (by omega); rw [b2 l e] at this; cases this
    · exact e
    · have := b3 (by omega); rw [a2 _ e] at this; cases this
  · rcases Nat.lt_trichotomy r (rgt row) with e | e | e
    · have := a6 (by omega); rw [b5 r e] at this; cases this
    · exact e
    · have := b6 (by omega); rw [a5 _ e] at this; cases this
def brs (row : List Bool) : Nat → Nat
 | 0 => 0
 | k + 1 => brs row k + (if row.getD k false = true ∧ (k = 0 ∨ row.getD (k - 1) false = false) then 1 else 0)
theorem brs_t {row : List Bool} {k : Nat} (h : row.getD k false = true ∧ (k = 0 ∨ row.getD (k - 1) false = false)) : brs row (k + 1) = brs row k + 1 := by rw [brs, if_pos h]
theorem brs_f {row : List Bool} {k : Nat} (h : ¬ (row.getD k false = true ∧ (k = 0 ∨ row.getD (k - 1) false = false))) : brs row (k + 1) = brs row k := by rw [brs, if_neg h, Nat.add_zero]
theorem brs_le (row : List Bool) : ∀ k, brs row k ≤ k
 | 0 => Nat.le_refl _
 | k + 1 => by have := brs_le row k; rw [brs]; split <;> omega
theorem brs_light {row : List Bool} {a : Nat} : ∀ k, (∀ j, a ≤ j → j < a + k → row.getD j false = false) → brs row (a + k) = brs row a
 | 0, _ => rfl
 | k + 1, h => by
  rw [← Nat.add_assoc, brs_f (fun hc => by have := h (a + k) (by omega) (by omega); rw [this] at hc; cases hc.1)]
  exact brs_light k (fun j h1 h2 => h j h1 (by omega))
theorem brs_first {row : List Bool} {l : Nat} (h : ∀ j, j < l → row.getD j false = false) (hd : row.getD l false = true) : brs row (l + 1) = 1 := by
 have h0 : brs row l = 0 := by have := brs_light (row := row) (a := 0) l (fun j _ hj => h j (by omega)); rw [Nat.zero_add] at this; exact this
 rw [brs_t ⟨hd, by by_cases e : l = 0; exact .inl e; exact .inr (h (l - 1) (by omega))⟩, h0]
def cw (row : List Bool) : Nat := 2 * brs row row.length - 1
theorem cw_half (row : List Bool) : (cw row + 1) / 2 = brs row row.length := by unfold cw; omega
theorem dark_iff {row : List Bool} {l r : Nat} (h : MarP row l r) (hl : l < row.length) : r < row.length ∧ l + r + 1 ≤ row.length := by
 obtain ⟨a1, a2, a3, a4, a5, a6⟩ := h
 have hd := a3 hl
 have hr : ¬ row.length - 1 - l < r := fun e => by
  have := a5 (row.length - 1 - l) e
  rw [show row.length - 1 - (row.length - 1 - l) = l by omega, hd] at this; cases this
 omega
theorem light_all {row : List Bool} {l r : Nat} (h : MarP row l r) (hl : l = row.length) : brs row row.length = 0 := by
 have := brs_light (row := row) (a := 0) row.length (fun j _ hj => h.2.1 j (by omega)); rw [Nat.zero_add] at this; exact this
def rowOf (dk : List Bool) (W y : Nat) : List Bool := cutL (y * W) ((y + 1) * W) dk
theorem rowOf_len {dk : List Bool} {W H y : Nat} (hn : dk.length = W * H) (hy : y < H) : (rowOf dk W y).length = W := by
 have h1 := Nat.mul_le_mul_right W (show y + 1 ≤ H by omega)
 rw [Nat.mul_comm H W, ← hn] at h1
 unfold rowOf cutL
 rw [List.length_take, List.length_drop]
 rw [Nat.add_mul, Nat.one_mul] at *; omega
def nx (dk : List Bool) (W H y : Nat) : Nat → Nat → Nat
 | 0, z => z
 | f + 1, z => if z < H ∧ rowOf dk W z = rowOf dk W y then nx dk W H y f (z + 1) else z
def nxt (dk : List Bool) (W H y : Nat) : Nat := nx dk W H y H (y + 1)
theorem nx_fuel {dk : List Bool} {W H y : Nat} : ∀ (f g z : Nat), H ≤ z + f → H ≤ z + g → nx dk W H y f z = nx dk W H y g z
 | 0, 0, z, _, _ => rfl
 | 0, g + 1, z, h, _ => by rw [nx, nx, if_neg (by omega)]
 | f + 1, 0, z, _, h => by rw [nx, nx, if_neg (by omega)]
 | f + 1, g + 1, z, h, k => by
  rw [nx, nx]; split
  · exact nx_fuel f g (z + 1) (by omega) (by omega)
  · rfl
theorem nx_step {dk : List Bool} {W H y z : Nat} (h : z < H ∧ rowOf dk W z = rowOf dk W y) : nx dk W H y H z = nx dk W H y H (z + 1) := by
 cases H with
 | zero => omega
 | succ H => rw [nx, if_pos h]; exact nx_fuel _ _ _ (by omega) (by omega)
theorem nx_stop {dk : List Bool} {W H y z : Nat} (h : ¬ (z < H ∧ rowOf dk W z = rowOf dk W y)) : nx dk W H y H z = z := by
 cases H with
 | zero => rfl
 | succ H => rw [nx, if_neg h]
theorem nx_ge {dk : List Bool} {W H y : Nat} : ∀ f z, z ≤ nx dk W H y f z
 | 0, z => Nat.le_refl _
 | f + 1, z => by
  rw [nx]; split
  · have := nx_ge (dk := dk) (W := W) (H := H) (y := y) f (z + 1); omega
  · exact Nat.le_refl _
def sbx (bars : Int) (row : List Bool) (y h : Nat) : Option Bx := if bars ≤ brs row row.length then some ⟨lft row, y, (row.length : Int) - lft row - rgt row, h⟩ else none
def strF (dk : List Bool) (W H : Nat) (bars : Int) : Nat → Nat → List Bx
 | 0, _ => []
 | f + 1, y => if y < H then (sbx bars (rowOf dk W y) y (nxt dk W H y - y)).toList ++ strF dk W H bars f (nxt dk W H y) else []
theorem strF_fuel {dk : List Bool} {W H : Nat} {bars : Int} : ∀ (f g y : Nat), H ≤ y + f → H ≤ y + g → strF dk W H bars f y = strF dk W H bars g y
 | 0, 0, y, _, _ => rfl
 | 0, g + 1, y, h, _ => by rw [strF, strF, if_neg (by omega)]
 | f + 1, 0, y, _, h => by rw [strF, strF, if_neg (by omega)]
 | f + 1, g + 1, y, h, k => by
  have hge : y + 1 ≤ nxt dk W H y := nx_ge _ _
  rw [strF, strF]; split
  · rw [strF_fuel f g _ (by omega) (by omega)]
  · rfl
def strs (dk : List Bool) (W H : Nat) (bars : Int) (y : Nat) : List Bx := strF dk W H bars H y
theorem strs_step {dk : List Bool} {W H : Nat} {bars : Int} {y : Nat} (h : y < H) : strs dk W H bars y = (sbx bars (rowOf dk W y) y (nxt dk W H y - y)).toList ++ strs dk W H bars (nxt dk W H y) := by
 unfold strs
 have hge : y + 1 ≤ nxt dk W H y := nx_ge _ _
 obtain ⟨n, rfl⟩ : ∃ n, H = n + 1 := ⟨H - 1, by omega⟩
 rw [strF, if_pos h, strF_fuel n (n + 1) _ (by omega) (by omega)]
theorem strs_end {dk : List Bool} {W H : Nat} {bars : Int} {y : Nat} (h : H ≤ y) : strs dk W H bars y = [] := by
 unfold strs
 cases H with
 | zero => rfl
 | succ n => rw [strF, if_neg (by omega)]
end Fi
end Go.Proofs.Ytbinlkobmlebpaa
namespace Go.Proofs.Ytbinlkobmlebpaa
open Go.RowKit Sym
open Fi
theorem equalB_ret (p q : Value) (l m : List Bool) (w : World) (hp : RdL Value.bool w p l) (hq : RdL Value.bool w q m) :
  Ret Try.prog 44 #[p, q] w fun v w' => v = .bool (decide (l = m)) ∧ Ext w w' := by
 have hM := M.start w
 refine enter Try.func44 rfl (by kernel_rfl) Try.ntmps44 rfl ?_
 refine C.seq <| C.region <| E.asg rfl rfl <| E.nil <| X.next <| C.seq <| C.seq <| C.region <| E.mv rfl rfl <| ?_
 refine E.lenv rfl (Rd.shape (hM.arg0 hp)) Try.underlying35 rfl ?_
 refine E.mv rfl rfl <| ?_
 refine E.lenv rfl (Rd.shape (hM.arg0 hq)) Try.underlying35 rfl ?_
 refine E.bin rfl rfl rfl rfl <| E.nil <| X.next <| ?_
 refine C.cond' rfl (fun hC0 => ?_) (fun hC0 => ?_)
 ·
  refine C.seq <| C.region <| E.asg rfl rfl <| E.nil <| X.next <| C.ret <| X.retT <| ret1 rfl rfl ?_
  exact ⟨by congr 1; exact (decide_eq_false (fun h => by rw [h] at hC0; exact hC0 rfl)).symm, hM.toExt⟩
 ·
  have hlm : l.length = m.length := by omega
  refine C.skip <| X.next <| C.seq <| C.seq <| C.region <| E.mv rfl rfl <| ?_
  refine E.lenv rfl (Rd.shape (hM.arg0 hp)) Try.underlying35 rfl ?_
  refine E.mv rfl rfl <| E.nil <| X.next <| C.block <| ?_

  refine C.loop1 [(0, _), (1, _), (12, _)] rfl (fun (k : Nat) => [(13, i64 k)]) (fun (k : Nat) w' => M w (Nn) w' [] ∧ k ≤ l.length ∧ l.take k = m.take k) (fun (k : Nat) => l.length - k) 0 ?_ ?_ ?_
  · exact Sub.cons rfl <| Sub.nil _
  · exact ⟨hM, Nat.zero_le _, rfl⟩
  rintro k w0 ⟨hM, hk, he⟩
  refine C.seq <| C.region <| E.bin rfl rfl rfl rfl <| E.nil <| X.next <| C.seq <| ?_
  refine C.cond' rfl (fun hC1 => ?_) (fun hC1 => ?_)
  ·
   have hk' : k < l.length := by omega
   have hk2 : k < m.length := by omega
   have hle := Rd.le hp
   refine C.skip <| X.next <| C.seq <| C.block <| C.seq <| C.region <| E.mv rfl rfl <| E.asg rfl rfl <| E.nil <| X.next <| C.seq <| C.drawn (by kernel_rfl) (by kernel_rfl) <| Q.mv rfl rfl <| Q.mv rfl rfl <| ?_
   refine Q.idx1 (k := k) rfl rfl (hM.arg0 hp) rfl hk' Try.underlying35 (by kernel_rfl) rfl ?_
   refine Q.load rfl Try.underlying4 rfl ((hM.arg0 hp).cellA rfl hk') rfl ?_
   refine Q.mv rfl rfl <| Q.mv rfl rfl <| ?_
   refine Q.idx1 (k := k) rfl rfl (hM.arg0 hq) rfl hk2 Try.underlying35 (by kernel_rfl) rfl ?_
   refine Q.load rfl Try.underlying4 rfl ((hM.arg0 hq).cellA rfl hk2) rfl ?_
   refine Q.neb rfl rfl Try.underlying4 rfl <| Q.nil <| fun w1 hx1 => ?_
   have hM := hM.ext hx1
   refine X.next <| ?_
   refine C.cond rfl (fun hC2 => ?_) (fun hC2 => ?_)
   ·
    have hne : l[k] ≠ m[k] := by simpa using hC2
    refine C.seq <| C.region <| E.asg rfl rfl <| E.nil <| X.next <| C.ret <| X.retB <| X.retT <| X.retT <| X.retB <| X.retT <| ret1 rfl rfl ?_
    exact ⟨by congr 1; exact (decide_eq_false (fun h => hne (by subst h; rfl))).symm, hM.toExt⟩
   ·
    have heq : l[k] = m[k] := by simpa using hC2
    refine C.skip <| X.outN <| X.next <| C.region <| ?_
    refine E.add rfl rfl (by omega) rfl ?_

    refine E.mv rfl rfl <| E.nil <| X.again1 (k + 1) (Sub.cons rfl <| Sub.nil _) rfl ⟨hM, by omega, by rw [← List.take_append_getElem hk', ← List.take_append_getElem hk2, he, heq]⟩ (by omega)
  ·
   obtain rfl : k = l.length := by omega
   rw [List.take_length, hlm, List.take_length] at he
   refine C.exit <| X.exitT <| X.exitT <| X.outE <| X.next <| C.seq <| C.region <| E.asg rfl rfl <| E.nil <| X.next <| C.ret <| ret1 rfl rfl ?_
   exact ⟨by congr 1; exact (decide_eq_true he).symm, hM.toExt⟩
theorem row_ret (vd : Value) (dk : List Bool) (W H y b2 : Nat) (w : World) (hr : RdL Value.bool w vd dk) (hb : Blk w b2 37 #[i64 W, i64 H, vd]) (hW : 1 ≤ W ∧ W ≤ 4096) (hn : dk.length = W * H) (hn2 : dk.length ≤ 4194304) (hy : y < H) (hH : H ≤ 4096) :
  Ret Try.prog 43 #[i64 y, pv b2] w fun v w' => v = partV vd (y * W) ((y + 1) * W) ∧ Ext w w' := by
 have hM := M.start w
 refine enter Try.func43 rfl (by kernel_rfl) Try.ntmps43 rfl ?_
 refine C.seq <| C.region <| E.asg rfl rfl <| E.nil <| X.next <| C.seq <| C.region <| ?_
 refine E.fld (o := 2) (sz := 0) rfl Try.underlying37 rfl rfl (by kernel_rfl) rfl ?_
 have hrow : (y + 1) * W ≤ dk.length := by
  have h1 := Nat.mul_le_mul_right W (show y + 1 ≤ H by omega)
  rw [Nat.mul_comm H W, ← hn] at h1; exact h1
 have hrow2 : y * W ≤ (y + 1) * W := Nat.mul_le_mul_right W (by omega)
 refine E.load rfl Try.underlying35 rfl ((hb.ext hM.toExt).cell 2) rfl ?_
 refine E.mv rfl rfl <| ?_
 refine E.fld (o := 0) (sz := 0) rfl Try.underlying37 rfl rfl (by kernel_rfl) rfl ?_
 refine E.load rfl Try.underlying3 rfl ((hb.ext hM.toExt).cell 0) rfl ?_
 refine E.mulN (a := y) (b := W) rfl rfl (by omega) rfl ?_
 refine E.mv rfl rfl <| ?_
 refine E.addN (a := y) (b := 1) rfl rfl (by omega) rfl ?_
 refine E.fld (o := 0) (sz := 0) rfl Try.underlying37 rfl rfl (by kernel_rfl) rfl ?_
 refine E.load rfl Try.underlying3 rfl ((hb.ext hM.toExt).cell 0) rfl ?_
 refine E.mulN (a := y + 1) (b := W) rfl rfl (by omega) rfl ?_
 refine E.slcP (y * W) ((y + 1) * W) rfl (.inl rfl) (.inl rfl) (hM.arg0 hr) Try.underlying35 (by kernel_rfl) hrow2 hrow rfl ?_
 refine E.asg rfl rfl <| E.nil <| X.next <| C.ret <| ret1 rfl rfl ?_
 exact ⟨rfl, hM.toExt⟩
set_option maxHeartbeats 400000 in
theorem Margins_ret (p : Value) (row : List Bool) (w : World) (hp : RdL Value.bool w p row) (hl : row.length ≤ 1000000) :
  Ret Try.prog 46 #[p] w fun v w' => ∃ l r : Nat, v = .tuple #[i64 l, i64 r] ∧ MarP row l r ∧ Ext w w' := by
 have hM := M.start w
 refine enter Try.func46 rfl (by kernel_rfl) Try.ntmps46 rfl ?_
 refine C.seq <| C.region <| E.asg rfl rfl <| E.asg rfl rfl <| E.nil <| X.next <| C.seq <| C.block <| ?_

 refine C.loop1 [(0, _), (3, _)] rfl (fun (k : Nat) => [(2, i64 k)]) (fun (k : Nat) w' => M w (Nn) w' [] ∧ k ≤ row.length ∧ ∀ j, j < k → row.getD j false = false) (fun (k : Nat) => row.length - k) 0 ?_ ?_ ?_
 · exact Sub.cons rfl <| Sub.nil _
 · exact ⟨hM, Nat.zero_le _, fun j h => absurd h (Nat.not_lt_zero _)⟩
 rintro k w0 ⟨hM, hk, hal⟩
 refine C.seq <| ?_

 refine C.chainE [(0, _), (2, _), (3, _)] rfl [(14, .bool (decide (k < row.length ∧ row.getD k false = false)))] ?_ ?_
 ·
  refine C.region <| E.mv rfl rfl <| E.mv rfl rfl <| ?_
  refine E.lenv rfl (Rd.shape (hM.arg0 hp)) Try.underlying35 rfl ?_
  refine E.bin rfl rfl rfl rfl <| E.mv rfl rfl <| ?_
  refine E.split 8 rfl (fun g8 => ?_) (fun g8 => ?_)
  ·
   try simp only [Ya, Yb, Yc, Yd, Ye, Yf] at g8
   have hk' : k < row.length := by omega
   refine E.on rfl rfl (E.mv rfl rfl ?_)
   refine E.on rfl rfl (E.mv rfl rfl ?_)
   refine E.on rfl rfl (E.idx1 (k := k) rfl rfl (hM.arg0 hp) rfl hk' Try.underlying35 (by kernel_rfl) rfl ?_)
   refine E.on rfl rfl (E.load rfl Try.underlying4 rfl ((hM.arg0 hp).cellA rfl hk') rfl ?_)
   rw [gb hk']
   refine E.on rfl rfl (E.not rfl rfl ?_)
   refine E.pick rfl rfl rfl <| E.nil <| X.join0 (Sub.cons (look_eq rfl (congrArg Value.bool (by (rw [Bool.eq_iff_iff, decide_eq_true_iff]; exact ⟨fun a => ⟨by omega, by simpa using a⟩, fun a => by rw [a.2]; rfl⟩)))) <| Sub.nil _) rfl rfl
  ·
   try simp only [Ya, Yb, Yc, Yd, Ye, Yf] at g8
   refine E.off rfl rfl rfl rfl <| E.off rfl rfl rfl rfl <| E.off rfl rfl rfl rfl <| E.off rfl rfl rfl rfl <| E.off rfl rfl rfl rfl <| E.pick rfl rfl rfl <| E.nil <| X.join0 (Sub.cons (look_eq rfl (congrArg Value.bool (by exact (decide_eq_false (fun h => by omega)).symm))) <| Sub.nil _) rfl rfl
 refine C.cond' rfl (fun hC0 => ?_) (fun hC0 => ?_)
 ·
  refine C.skip <| X.next <| C.block <| C.region <| E.mv rfl rfl <| ?_
  refine E.addN (a := k) (b := 1) rfl rfl (by omega) rfl ?_

  refine E.asg rfl rfl <| E.nil <| X.outN <| X.again1 (k + 1) (Sub.cons rfl <| Sub.nil _) rfl ⟨hM, by omega, fun j hj => if e : j = k then e ▸ hC0.2 else hal j (by omega)⟩ (by omega)
 ·
  refine C.exit <| X.exitT <| X.exitT <| X.outE <| X.next <| C.seq <| C.block <| ?_

  refine C.loop1 [(0, _), (2, _)] rfl (fun (r : Nat) => [(3, i64 r)]) (fun (r : Nat) w' => M w (Nn) w' [] ∧ r ≤ row.length ∧ ∀ j, j < r → row.getD (row.length - 1 - j) false = false) (fun (r : Nat) => row.length - r) 0 ?_ ?_ ?_
  · exact Sub.cons rfl <| Sub.nil _
  · exact ⟨hM, Nat.zero_le _, fun j h => absurd h (Nat.not_lt_zero _)⟩
  rintro r w1 ⟨hM, hr, har⟩
  refine C.seq <| ?_

  refine C.chainE [(0, _), (2, _), (3, _)] rfl [(31, .bool (decide (r < row.length ∧ row.getD (row.length - 1 - r) false = false)))] ?_ ?_
  ·
   refine C.region <| E.mv rfl rfl <| E.mv rfl rfl <| ?_
   refine E.lenv rfl (Rd.shape (hM.arg0 hp)) Try.underlying35 rfl ?_
   refine E.bin rfl rfl rfl rfl <| E.mv rfl rfl <| ?_
   refine E.split 21 rfl (fun g21 => ?_) (fun g21 => ?_)
   ·
    try simp only [Ya, Yb, Yc, Yd, Ye, Yf] at g21
    have hr' : row.length - 1 - r < row.length := by omega
    refine E.on rfl rfl (E.mv rfl rfl ?_)
    refine E.on rfl rfl (E.mv rfl rfl ?_)
    refine E.on rfl rfl (E.lenv rfl (Rd.shape (hM.arg0 hp)) Try.underlying35 rfl ?_)
    refine E.on rfl rfl (E.subN (a := row.length) (b := 1) rfl rfl (by omega) rfl ?_)
    refine E.on rfl rfl (E.mv rfl rfl ?_)
    refine E.on rfl rfl (E.subN (a := row.length - 1) (b := r) rfl rfl (by omega) rfl ?_)
    refine E.on rfl rfl (E.idx1 (k := row.length - 1 - r) rfl rfl (hM.arg0 hp) rfl hr' Try.underlying35 (by kernel_rfl) rfl ?_)
    refine E.on rfl rfl (E.load rfl Try.underlying4 rfl ((hM.arg0 hp).cellA rfl hr') rfl ?_)
    rw [gb hr']
    refine E.on rfl rfl (E.not rfl rfl ?_)
    refine E.pick rfl rfl rfl <| E.nil <| X.join0 (Sub.cons (look_eq rfl (congrArg Value.bool (by (rw [Bool.eq_iff_iff, decide_eq_true_iff]; exact ⟨fun a => ⟨by omega, by simpa using a⟩, fun a => by rw [a.2]; rfl⟩)))) <| Sub.nil _) rfl rfl
   ·
    try simp only [Ya, Yb, Yc, Yd, Ye, Yf] at g21
    refine E.off rfl rfl rfl rfl <| E.off rfl rfl rfl rfl <| E.off rfl rfl rfl rfl <| E.off rfl rfl rfl rfl <| E.off rfl rfl rfl rfl <| E.off rfl rfl rfl rfl <| E.off rfl rfl rfl rfl <| E.off rfl rfl rfl rfl <| E.off rfl rfl rfl rfl <| E.pick rfl rfl rfl <| E.nil <| X.join0 (Sub.cons (look_eq rfl (congrArg Value.bool (by exact (decide_eq_false (fun h => by omega)).symm))) <| Sub.nil _) rfl rfl
  refine C.cond' rfl (fun hC1 => ?_) (fun hC1 => ?_)
  ·
   refine C.skip <| X.next <| C.block <| C.region <| E.mv rfl rfl <| ?_
   refine E.addN (a := r) (b := 1) rfl rfl (by omega) rfl ?_

   refine E.asg rfl rfl <| E.nil <| X.outN <| X.again1 (r + 1) (Sub.cons rfl <| Sub.nil _) rfl ⟨hM, by omega, fun j hj => if e : j = r then e ▸ hC1.2 else har j (by omega)⟩ (by omega)
  ·
   refine C.exit <| X.exitT <| X.exitT <| X.outE <| X.next <| C.seq <| C.region <| E.mv rfl rfl <| E.mv rfl rfl <| E.asg rfl rfl <| E.asg rfl rfl <| E.nil <| X.next <| C.ret <| ret2 rfl rfl rfl ?_
   exact ⟨k, r, rfl, ⟨hk, hal, fun h => (by cases e : row.getD k false with
     | true => rfl
     | false => exact (hC0 ⟨h, e⟩).elim), hr, har, fun h => (by cases e : row.getD (row.length - 1 - r) false with
     | true => rfl
     | false => exact (hC1 ⟨h, e⟩).elim)⟩, hM.toExt⟩
theorem spans_ret (p : Value) (w : World) (h1 : p.oneCell' = true) :
  Ret Try.prog 70 #[p] w fun v w' => ∃ b, v = fnv 94 [pv b] ∧ M w Nn w' [Rg.blk b 35 [p]] := by
 have hM := M.start w
 refine enter Try.func70 rfl (by kernel_rfl) Try.ntmps70 rfl ?_
 refine C.seq <| C.region <| ?_
 refine E.boxM (cs := [p]) hM rfl (by cases p <;> simp_all [Value.cells, Value.oneCell']) rfl ?_
 intro b1 w0 hM
 try dsimp only [Za, Zb, Zc, Zd, repl] at hM
 refine E.asg rfl rfl <| E.nil <| X.next <| C.seq <| C.region <| ?_
 refine E.mkfn rfl rfl ?_
 refine E.asg rfl rfl <| E.nil <| X.next <| C.ret <| ret1 rfl rfl ?_
 exact ⟨b1, rfl, hM⟩
end Go.Proofs.Ytbinlkobmlebpaa
namespace Go.Proofs.Ytbinlkobmlebpaa.Sym
open Go.RowKit
def wpEI (n : Nat) (P : Program) (ops : Array Oper) (Q : Exit → Act → World → Prop) (s : St) (l : List Oper) (env : Env) (w : World) : Prop := ∀ a, Sat s a env → wpListIn Fence.wide n P ops Q l a w
section
variable {n : Nat} {P : Program} {ops : Array Oper} {Q : Exit → Act → World → Prop} {s : St} {env : Env} {w : World} {rest : List Oper}
variable {d : Nat} {ty : TypeId} {pos : String} {aft : Array Edge}
theorem C.regionI (n : Nat) {id : Nat} {l : List Oper} (h : wpEI n P l.toArray Q s l env w) : wpC P (.region id l.toArray false) Q s env w := fun a ha => wpIn_wide.1 (wpIn_region_lit (h a ha))
theorem EI.nil (h : wpX .normal Q s env w) : wpEI n P ops Q s [] env w := fun a ha => wpListIn_nil (h a ha)
theorem EI.op {op : Op} {v : Value} {w' : World} (hrun : ∀ a, Sat s a env → (execOp a.eval ⟨some d, op, ty, pos, aft, none⟩).run P w = .ok (.value v) w')
  (hd : Nat.blt d s.n = true) (h : wpEI n P ops Q s rest ((d, v) :: env) w') : wpEI n P ops Q s (⟨some d, op, ty, pos, aft, none⟩ :: rest) env w := fun a ha =>
 wpListIn_plain rfl fun K hK => by
  unfold Oper.wpIn
  refine ⟨fun _ _ => trivial, ?_⟩
  rw [show Fence.wide.round = none from rfl, Oper.semAt_none, hrun a ha, Oper.uponIn_value]
  exact hK _ _ (h _ (ha.put d v hd))
theorem EI.mv {x : Operand} {v : Value} (hx : ev env x = some v) (hd : Nat.blt d s.n = true) (h : wpEI n P ops Q s rest ((d, v) :: env) w) : wpEI n P ops Q s (⟨some d, .move x, ty, pos, aft, none⟩ :: rest) env w :=
 EI.op (fun a ha => by simp [execOp, ha.ev hx]) hd h
theorem EI.subN {t t2 : TypeId} {x y : Operand} {a b : Nat} (hx : ev env x = some (.int .i64 (a : Int))) (hy : ev env y = some (.int .i64 (b : Int))) (hr : b ≤ a ∧ a ≤ 9223372036854775807) (hd : Nat.blt d s.n = true) (h : wpEI n P ops Q s rest ((d, .int .i64 ((a - b : Nat) : Int)) :: env) w) : wpEI n P ops Q s (⟨some d, .binOp .sub t x y t2, ty, pos, aft, none⟩ :: rest) env w :=
 EI.op (fun a' ha => by
  have hv : iop .sub .i64 (a : Int) (b : Int) = some (.int .i64 ((a - b : Nat) : Int)) := by
   simp only [iop]; rw [IntWalk.i64_in _ (by omega)]; congr 2; omega
  have := run_iop (P := P) t x y hv w
  simp only [execOp, ha.ev hx, ha.ev hy]
  rw [Sem.run_bind, this]; rfl) hd h
theorem EI.not {x : Operand} {t : TypeId} {b : Bool} (hx : ev env x = some (.bool b)) (hd : Nat.blt d s.n = true) (h : wpEI n P ops Q s rest ((d, .bool (!b)) :: env) w) : wpEI n P ops Q s (⟨some d, .unOp .not t x, ty, pos, aft, none⟩ :: rest) env w :=
 EI.op (fun a ha => by simp [execOp, ha.ev hx, Op.unary]) hd h
theorem EI.yield {x : Operand} {xs : List Operand} {ats : Array TypeId} {vs : List Value} {l : Nat} {R : Ending → World → Prop} (hf : ev env x = some (.func (.yield l) #[] #[])) (hx : evl env xs = some vs) (hd : Nat.blt d s.n = true) (hY : YieldAt Fence.wide (n - 1) P l vs.toArray w R) (hR : ∀ e w', R e w' → ∃ v, e = .returned v)
  (h : ∀ v w', R (.returned v) w' → wpEI n P ops Q s rest ((d, v) :: env) w') : wpEI n P ops Q s (⟨some d, .call ⟨.value x, xs.toArray, ats⟩, ty, pos, aft, none⟩ :: rest) env w := fun a ha =>
 wpListIn_plain rfl fun K hK => by
  obtain ⟨fn, tmps, assign, body, hy, hr⟩ := hY
  unfold Oper.wpIn
  refine ⟨fun _ _ => trivial, ?_⟩
  have e : xs.toArray.map a.eval = vs.toArray := by rw [List.map_toArray, ← ha.evl hx]
  have hrun : (execOp a.eval ⟨some d, .call ⟨.value x, xs.toArray, ats⟩, ty, pos, aft, none⟩).run P w = .ok (.round l fn tmps assign body) w := by
   rw [← hy]
   simp only [execOp, resolve, e, ha.ev hf, Deferred.ofValue]
   simp [invoke]
  rw [show Fence.wide.round = none from rfl, Oper.semAt_none, hrun, Oper.uponIn_round]
  refine ⟨fun h => (by cases h), hr.mono fun e' w' he => ?_⟩
  obtain ⟨v, rfl⟩ := hR e' w' he
  exact hK _ _ (h v w' he _ (ha.put d v hd))
end
theorem M.frs {S : Nat → Prop} {w0 w w' : World} (h : M w0 S w []) (k : FrS S w w') : M w0 S w' [] :=
 ⟨⟨fun i r h => by simp at h, fun i j r q h => by simp at h⟩, fun i r h => by simp at h, h.fr.step k (fun _ h => .inl h)⟩
theorem M.startN (S : Nat → Prop) (w : World) : M w S w [] := ⟨⟨fun i r h => by simp at h, fun i j r q h => by simp at h⟩, fun i r h => by simp at h, FrS.refl _ _⟩
theorem Ext.grownN {w w' : World} (h : Ext w w') : w.grownBy w' none := ⟨h.os, h.tape, h.output, h.size, fun k hk _ => h.block k hk⟩
end Go.Proofs.Ytbinlkobmlebpaa.Sym
namespace Go.Proofs.Ytbinlkobmlebpaa
open Go.RowKit Sym
open Fi
namespace Fi
def St (row : List Bool) (L E i s q : Nat) : Prop := s < i ∧ ((i ≤ E ∧ row.getD s false = row.getD (i - 1) false ∧ q + 1 + (if row.getD (i - 1) false = true then 1 else 0) = 2 * brs row i ∧ q + L + 1 ≤ i) ∨ (i = E + 1 ∧ q = cw row))
theorem st_init {row : List Bool} {L R : Nat} (h : MarP row L R) (hl : L < row.length) : St row L (row.length - R) (L + 1) L 0 := by
 have hd := dark_iff h hl
 have h1 := h.2.2.1 hl
 refine ⟨by omega, .inl ⟨by omega, by rw [Nat.add_sub_cancel], ?_, by omega⟩⟩
 rw [Nat.add_sub_cancel, if_pos h1, brs_first h.2.1 h1]
theorem st_same {row : List Bool} {L E i s q : Nat} (h : St row L E i s q) (hi : i < E) (he : row.getD i false = row.getD s false) : St row L E (i + 1) s q := by
 obtain ⟨h1, h2⟩ := h
 obtain ⟨h3, h4, h5, h6⟩ := h2.resolve_right (by omega)
 have e : row.getD i false = row.getD (i - 1) false := he.trans h4
 refine ⟨by omega, .inl ⟨by omega, by rw [Nat.add_sub_cancel]; exact he.symm, ?_, by omega⟩⟩
 rw [Nat.add_sub_cancel, brs_f (fun hc => by
  rcases hc.2 with h0 | h0
  · omega
  · rw [← e, hc.1] at h0; cases h0), e]; exact h5
theorem st_next {row : List Bool} {L R i s q : Nat} (hm : MarP row L R) (hl : L < row.length) (h : St row L (row.length - R) i s q) (hi : i ≤ row.length - R) (hne : ¬ (i < row.length - R ∧ row.getD i false = row.getD s false)) : St row L (row.length - R) (i + 1) i (q + 1) := by
  obtain ⟨h1, h2⟩ := h
  obtain ⟨h3, h4, h5, h6⟩ := h2.resolve_right (by omega)
  have hd := dark_iff hm hl
  refine ⟨by omega, ?_⟩
  by_cases e : i < row.length - R
  · have hne2 : row.getD i false ≠ row.getD (i - 1) false := fun c => hne ⟨e, c.trans h4.symm⟩
    refine .inl ⟨by omega, by rw [Nat.add_sub_cancel], ?_, by omega⟩
    rw [Nat.add_sub_cancel]
    cases a : row.getD i false with
    | true =>
      have b : row.getD (i - 1) false = false := by
        cases c : row.getD (i - 1) false with
        | false => rfl
        | true => rw [a, c] at hne2; exact (hne2 rfl).elim
      rw [b] at h5
      rw [brs_t ⟨a, .inr b⟩]; simp at h5 ⊢; omega
    | false =>
      have b : row.getD (i - 1) false = true := by
        cases c : row.getD (i - 1) false with
        | true => rfl
        | false => rw [a, c] at hne2; exact (hne2 rfl).elim
      rw [b] at h5
      rw [brs_f (fun hc => by rw [a] at hc; cases hc.1)]; simp at h5 ⊢; omega
  · obtain rfl : i = row.length - R := by omega
    refine .inr ⟨rfl, ?_⟩
    have h7 := hm.2.2.2.2.2 (by omega)
    rw [show row.length - R - 1 = row.length - 1 - R by omega, h7] at h5
    have h8 := brs_light (row := row) (a := row.length - R) R (fun j k1 k2 => by
      have := hm.2.2.2.2.1 (row.length - 1 - j) (by omega)
      rw [show row.length - 1 - (row.length - 1 - j) = j by omega] at this; exact this)
    rw [show row.length - R + R = row.length by omega] at h8
    unfold cw; rw [h8]; simp at h5; omega
end Fi
set_option maxHeartbeats 1000000 in
theorem spans1_ret (N l b1 n0 : Nat) (p : Value) (row : List Bool) (J Jx : List Int → World → Prop) (w : World) (hblk : Blk w b1 35 #[p]) (hp : RdL Value.bool w p row) (hp0 : Off (fun k => n0 ≤ k ∧ k ≠ b1) p row) (hl : row.length ≤ 1000000) (hJ : ∀ pre A B, J pre A → Ext A B → J pre B) (hY : ∀ pre x W1, J pre W1 → pre.length < row.length + 1 → YieldAt Fence.wide (N - 1) Try.prog l #[i64 x] W1 (fun e W' => (e = .returned (.bool true) ∧ J (pre ++ [x]) W' ∧ FrS (fun k => n0 ≤ k ∧ k ≠ b1) W1 W') ∨ (e = .returned (.bool false) ∧ Jx (pre ++ [x]) W'))) (h0 : J [] w) :
  Ret Try.prog 94 #[.func (.yield l) #[] #[], pv b1] w fun v w' => (∃ ys, ys.length = cw row ∧ J ys w') ∨ ∃ pre, Jx pre w' := by
 have hM := M.startN (fun k => n0 ≤ k ∧ k ≠ b1) w
 refine enter Try.func94 rfl (by kernel_rfl) Try.ntmps94 rfl ?_
 refine C.seq <| C.region <| ?_
 have hbk : ∀ w', M w (fun k => n0 ≤ k ∧ k ≠ b1) w' [] → Blk w' b1 35 #[p] := fun w' h => (h.fr.block b1 hblk.lt (fun h => h.2 rfl)).trans hblk
 refine E.load rfl Try.underlying35 rfl ((hbk _ hM).cell 0) rfl ?_
 refine E.call rfl rfl (Margins_ret p row _ (hM.arg hp hp0) hl) ?_
 rintro _ w0 ⟨L, R, rfl, hm, x0⟩
 have hM := hM.ext x0
 have h0 := hJ _ _ _ h0 x0
 try dsimp only [Za, Zb, Zc, Zd, repl] at hM
 refine E.mv rfl rfl <| E.ext rfl rfl rfl <| E.ext rfl rfl rfl <| E.asg rfl rfl <| E.asg rfl rfl <| E.nil <| X.next <| C.seq <| C.seq <| C.region <| E.mv rfl rfl <| ?_
 refine E.load rfl Try.underlying35 rfl ((hbk _ hM).cell 0) rfl ?_
 refine E.lenv rfl (Rd.shape (hM.arg hp hp0)) Try.underlying35 rfl ?_
 refine E.bin rfl rfl rfl rfl <| E.nil <| X.next <| ?_
 refine C.cond' rfl (fun hC0 => ?_) (fun hC0 => ?_)
 ·
  refine C.ret <| X.retT <| ret0 rfl ?_
  exact .inl ⟨[], by unfold cw; rw [light_all hm (by omega)]; rfl, h0⟩
 ·
  have hL : L < row.length := by have := hm.1; omega
  have hdk := dark_iff hm hL
  refine C.skip <| X.next <| C.seq <| C.region <| ?_
  refine E.load rfl Try.underlying35 rfl ((hbk _ hM).cell 0) rfl ?_
  refine E.lenv rfl (Rd.shape (hM.arg hp hp0)) Try.underlying35 rfl ?_
  refine E.mv rfl rfl <| ?_
  refine E.subN (a := row.length) (b := R) rfl rfl (by omega) rfl ?_
  refine E.asg rfl rfl <| E.nil <| X.next <| C.seq <| C.region <| E.mv rfl rfl <| E.asg rfl rfl <| E.nil <| X.next <| C.seq <| C.region <| E.mv rfl rfl <| ?_
  refine E.addN (a := L) (b := 1) rfl rfl (by omega) rfl ?_
  refine E.asg rfl rfl <| E.nil <| X.next <| C.block <| ?_

  refine C.loop3 [(0, _), (1, _), (5, _)] rfl (fun (i : Nat) (st : Nat) (pre : (List Int)) => [(6, i64 st), (7, i64 i)]) (fun (i : Nat) (st : Nat) (pre : (List Int)) w' => M w ((fun k => n0 ≤ k ∧ k ≠ b1)) w' [] ∧ J pre w' ∧ i ≤ (row.length - R) + 1 ∧ St row L (row.length - R) i st pre.length) (fun (i : Nat) (st : Nat) (pre : (List Int)) => (row.length - R) + 1 - i) (L + 1) L [] ?_ ?_ ?_
  · exact Sub.cons rfl <| Sub.cons rfl <| Sub.nil _
  · exact ⟨hM, h0, by omega, st_init hm hL⟩
  rintro i st pre w1 ⟨hM, hj, hi1, hst⟩
  refine C.seq <| C.seq <| C.region <| E.mv rfl rfl <| E.mv rfl rfl <| E.bin rfl rfl rfl rfl <| E.nil <| X.next <| ?_
  refine C.cond' rfl (fun hC1 => ?_) (fun hC1 => ?_)
  ·
   have hi : i ≤ (row.length - R) := by omega
   have hsi := hst.1
   refine C.skip <| X.next <| ?_

   refine C.cut2 [(0, _), (1, _), (5, _), (7, _)] rfl (fun (st : Nat) (pre : (List Int)) => [(6, i64 st)]) (fun (st : Nat) (pre : (List Int)) w' => M w ((fun k => n0 ≤ k ∧ k ≠ b1)) w' [] ∧ J pre w' ∧ St row L (row.length - R) (i + 1) st pre.length) ?_ ?_
   ·
    refine C.block <| C.seq <| ?_

    refine C.chainQ [(0, _), (1, _), (5, _), (6, _), (7, _)] rfl [(42, .bool (decide (i < (row.length - R) ∧ row.getD i false = row.getD st false)))] ?_ ?_
    ·
     refine C.drawn (by kernel_rfl) (by kernel_rfl) <| Q.mv rfl rfl <| Q.mv rfl rfl <| Q.bin rfl rfl rfl rfl <| Q.mv rfl rfl <| ?_
     refine Q.split 32 rfl (fun g32 => ?_) (fun g32 => ?_)
     ·
      try simp only [Ya, Yb, Yc, Yd, Ye, Yf] at g32
      have hi2 : i < row.length := by omega
      have hs2 : st < row.length := by omega
      refine Q.on rfl rfl (Q.load rfl Try.underlying35 rfl ((hbk _ hM).cell 0) rfl ?_)
      refine Q.on rfl rfl (Q.mv rfl rfl ?_)
      refine Q.on rfl rfl (Q.idx1 (k := i) rfl rfl (hM.arg hp hp0) rfl hi2 Try.underlying35 (by kernel_rfl) rfl ?_)
      refine Q.on rfl rfl (Q.load rfl Try.underlying4 rfl ((hM.arg hp hp0).cellA rfl hi2) rfl ?_)
      rw [gb hi2]
      refine Q.on rfl rfl (Q.load rfl Try.underlying35 rfl ((hbk _ hM).cell 0) rfl ?_)
      refine Q.on rfl rfl (Q.mv rfl rfl ?_)
      refine Q.on rfl rfl (Q.idx1 (k := st) rfl rfl (hM.arg hp hp0) rfl hs2 Try.underlying35 (by kernel_rfl) rfl ?_)
      refine Q.on rfl rfl (Q.load rfl Try.underlying4 rfl ((hM.arg hp hp0).cellA rfl hs2) rfl ?_)
      rw [gb hs2]
      refine Q.on rfl rfl (Q.eqb rfl rfl Try.underlying4 rfl ?_)
      refine Q.pick rfl rfl rfl <| Q.nil <| fun w2 hx2 => ?_
      refine X.join0 (Sub.cons (look_eq rfl (congrArg Value.bool (by (rw [Bool.eq_iff_iff, decide_eq_true_iff]; exact ⟨fun a => ⟨by omega, by simpa using a⟩, fun a => by rw [a.2]; simp⟩)))) <| Sub.nil _) rfl hx2
     ·
      try simp only [Ya, Yb, Yc, Yd, Ye, Yf] at g32
      refine Q.off rfl rfl rfl rfl <| Q.off rfl rfl rfl rfl <| Q.off rfl rfl rfl rfl <| Q.off rfl rfl rfl rfl <| Q.off rfl rfl rfl rfl <| Q.off rfl rfl rfl rfl <| Q.off rfl rfl rfl rfl <| Q.off rfl rfl rfl rfl <| Q.off rfl rfl rfl rfl <| Q.pick rfl rfl rfl <| Q.nil <| fun w3 hx3 => ?_
      refine X.join0 (Sub.cons (look_eq rfl (congrArg Value.bool (by exact (decide_eq_false (fun h => by omega)).symm))) <| Sub.nil _) rfl hx3
    intro w4 hx4
    have hM := hM.ext hx4
    have hj := hJ _ _ _ hj ‹Ext _ _›
    refine C.cond' rfl (fun hC2 => ?_) (fun hC2 => ?_)
    ·

     refine C.exit <| X.exitT <| X.outE <| X.join2 st pre (Sub.cons rfl <| Sub.nil _) rfl ⟨hM, hj, st_same hst hC2.1 hC2.2⟩
    ·
     have hnx := st_next hm hL hst hi hC2
     refine C.skip <| X.next <| C.seq <| C.seq <| C.regionI N <| EI.mv rfl rfl <| EI.mv rfl rfl <| EI.mv rfl rfl <| ?_
     refine EI.subN (a := i) (b := st) rfl rfl (by omega) rfl ?_
     refine EI.yield rfl rfl rfl (hY pre _ _ hj (by obtain ⟨_, h⟩ := hst; have := h.resolve_right (by omega); omega)) (fun e w' h => h.elim (fun h => ⟨_, h.1⟩) (fun h => ⟨_, h.1⟩)) ?_
     rintro v47 w5 hr
     obtain ⟨bb, rfl, hrr⟩ : ∃ bb : Bool, v47 = .bool bb ∧ ((bb = true ∧ J (pre ++ [((i - st : Nat) : Int)]) w5 ∧ FrS (fun k => n0 ≤ k ∧ k ≠ b1) _ w5) ∨ (bb = false ∧ Jx (pre ++ [((i - st : Nat) : Int)]) w5)) := by
      rcases hr with ⟨h1, h2⟩ | ⟨h1, h2⟩ <;> cases h1
      · exact ⟨true, rfl, .inl ⟨rfl, h2⟩⟩
      · exact ⟨false, rfl, .inr ⟨rfl, h2⟩⟩
     try dsimp only [Za, Zb, Zc, Zd, repl] at hM
     refine EI.not rfl rfl <| EI.nil <| X.next <| ?_
     refine C.cond rfl (fun hC3 => ?_) (fun hC3 => ?_)
     ·
      have hbf : bb = false := by simpa using hC3
      refine C.ret <| X.retT <| X.retB <| X.retT <| X.retT <| X.retB <| ret0 rfl ?_
      exact .inr ⟨_, (hrr.resolve_left (fun h => by have h1 := h.1; rw [hbf] at h1; cases h1)).2⟩
     ·
      have hbt : bb = true := by simpa using hC3
      obtain ⟨_, hj2, hb2⟩ := hrr.resolve_right (fun h => by have h1 := h.1; rw [hbt] at h1; cases h1)
      have hM := hM.frs hb2

      refine C.skip <| X.next <| C.region <| E.mv rfl rfl <| E.asg rfl rfl <| E.nil <| X.outN <| X.join2 i _ (Sub.cons rfl <| Sub.nil _) rfl ⟨hM, hj2, by rw [List.length_append]; exact hnx⟩
   rintro st pre w6 ⟨hM, hj, hst⟩
   refine C.region <| E.mv rfl rfl <| ?_
   refine E.addN (a := i) (b := 1) rfl rfl (by omega) rfl ?_

   refine E.asg rfl rfl <| E.nil <| X.again3 (i + 1) st pre (Sub.cons rfl <| Sub.cons rfl <| Sub.nil _) rfl ⟨hM, hj, by omega, hst⟩ (by omega)
  ·
   obtain ⟨_, hst⟩ := hst
   obtain ⟨hie, hq⟩ := hst.resolve_left (by omega)
   refine C.exit <| X.exitT <| X.exitT <| X.outE <| end0 rfl ?_
   exact .inl ⟨pre, hq, hj⟩
end Go.Proofs.Ytbinlkobmlebpaa
namespace Go.Proofs.Ytbinlkobmlebpaa
open Go.RowKit Go.Shelf Sym Fi
attribute [local go_sem] Oper.semAt_some
theorem spans_stops (n b n0 : Nat) (p : Value) (row : List Bool) (w : World) (hn0 : n0 ≤ w.heap.size) (hblk : Blk w b 35 #[p]) (hp : RdL Value.bool w p row) (hp0 : Off (fun k => n0 ≤ k ∧ k ≠ b) p row) (hl : row.length ≤ 1000000) :
  SeqStopsK Fence.wide n Try.prog 94 #[pv b] (fun x : Int => #[i64 x]) (FrS (fun k => n0 ≤ k ∧ k ≠ b)) (fun ys => ys.length = cw row) (fun _ => True) (row.length + 1) w := fun l J Jx W hW hJ _ hY h0 => by
 have hb : b < w.heap.size := hblk.lt
 have hblk' : Blk W b 35 #[p] := (hW.block b hb).trans hblk
 have hp' : RdL Value.bool W p row := (Rg.rd 1 p row.length (row.map Value.bool)).keep (fun k hk => hW.block k ((Rg.rd 1 p row.length (row.map Value.bool)).live hp k hk)) hp
 refine callsIn_wide.2 (Calls.mono (spans1_ret n l b n0 p row J Jx W hblk' hp' hp0 hl (fun pre A B h x => hJ pre A B none h x.grownN (fun r e => by cases e)) (fun pre x W1 h hlt => hY pre x W1 h hlt) h0).2 ?_)
 rintro e W' ⟨v, rfl, h⟩
 refine ⟨⟨v, rfl⟩, ?_⟩
 rcases h with ⟨ys, h1, h2⟩ | ⟨pre, h1⟩
 · exact .inl ⟨ys, h1, h2⟩
 · exact .inr ⟨pre, trivial, h1⟩
theorem infoI : (Try.prog.info? 3).map (fun i => (i.zero, i.size, i.bytes)) = some (some (.int .i64 0), 1, 8) := by kernel_rfl
theorem frs_of {n0 b : Nat} {W W' : World} (h : Below n0 W W') (hb : W'.heap[b]? = W.heap[b]?) : FrS (fun k => n0 ≤ k ∧ k ≠ b) W W' := ⟨h.os, h.tape, h.output, h.size, fun k _ hS => by
  by_cases h1 : k < n0
  · exact h.block k h1
  · by_cases h2 : k = b
    · rw [h2]; exact hb
    · exact (hS ⟨by omega, h2⟩).elim⟩
theorem boxed_own {β : Type} {B : Nat} {b : Nat} {t : TypeId} {v : Value} : OwnFrom B (fun (_ : β) W => Boxed W b t v) := fun _ W W' row h hg hrow => h.kept hg (fun e => by
 obtain ⟨_, o, ho, hc⟩ := hrow b e.symm
 rw [show W.heap[b]? = _ from h] at ho; cases ho; cases hc)
theorem off_arg {n0 b : Nat} {w : World} {p : Value} {row : List Bool} (hp : RdL Value.bool w p row) (hn : w.heap.size ≤ n0) : Off (fun k => n0 ≤ k ∧ k ≠ b) p row := by
 cases row with
 | nil => exact .inl rfl
 | cons x xs => exact .inr (fun h => by have := Rd.lt hp (by simp); omega)
set_option maxRecDepth 100000 in
set_option maxHeartbeats 4000000 in
theorem Widths_in (n : Nat) (hn : 3 ≤ n) (p : Value) (row : List Bool) (w : World) (hp : RdL Value.bool w p row) (hl : row.length ≤ 1000000) :
  CallsIn Fence.wide n Try.prog 45 #[p] w fun e W' => ∃ (v : Value) (ys : List Int), e = .returned v ∧ ys.length = cw row ∧ W'.ownsRow w.heap.size 3 1 v ys.length (ys.map i64) ∧ Below w.heap.size w W' := by
 have h1 : 1 ≤ n := by omega
 have hone : p.oneCell' = true := by obtain ⟨a, cap, rfl, _⟩ := hp; rfl
 obtain ⟨i0, hi, hz0, hz1, hz2⟩ := info_parts infoI
 refine callsIn_of_wp_marks Try.func45 rfl trivial ?_ rfl
 simp only [Try.ntmps45, List.size_toArray, List.length_cons, List.length_nil, Nat.reduceAdd, Nat.reduceSub, Array.replicate_succ, Array.replicate_zero, List.push_toArray, List.append_toArray, List.nil_append, List.cons_append]
 gi_wp2_with (refine ⟨trivial, ?_⟩; gi_at_call 70; refine (callsIn_wide.2 (spans_ret p _ hone).2).mono ?_; rintro e w' ⟨v, rfl, b, rfl, hm⟩)
 have hb1 : w.heap.size + 1 ≤ b := (hm.mine 0 _ rfl b rfl).elim (fun h => h.elim) (fun h => by simpa using h)
 have hx := hm.toExt
 have hbb : Blk w' b 35 #[p] := hm.blk 0 rfl
 have hB1 : Below w.heap.size w w' := ((Below.refl _ w).alloc (Nat.le_refl _) _).trans ⟨hx.os, hx.tape, hx.output, hx.size, fun k hk => hx.block k (by simp; omega)⟩
 have hsz : w.heap.size + 1 ≤ w'.heap.size := by simpa using hx.size
 have bO : Boxed w' w.heap.size 45 (.slice none 0 0) := (hx.block _ (by simp)).trans (Boxed.new w 45 (.slice none 0 0))
 have hpW : RdL Value.bool w' p row := (Rg.rd 1 p row.length (row.map Value.bool)).keep (fun k hk => hB1.block k ((Rg.rd 1 p row.length (row.map Value.bool)).live hp k hk)) hp
 refine wpIn_rangeFunc_ownG rfl h1 (gf := 94) (lb := #[pv b]) rfl trivial (enters_of Try.func94 (by kernel_rfl) rfl)
  (spans_stops (n - 1) b w.heap.size p row w' (by omega) hbb hpW (off_arg hp (Nat.le_refl _)) hl)
  (fun h k => h.step k (fun _ x => .inl x)) (fun W l o o' h1 h2 h3 _ => FrS.ofGrown (grownBy_putObj' W l o') (fun k e => by cases e; exact ⟨by omega, by have := hbb.lt; omega⟩))
  (Below.refl _ _) (fun _ => rfl)
  (fun (pre : List Int) W => (∃ v, Boxed W w.heap.size 45 v ∧ W.ownsRow w.heap.size 3 1 v pre.length (pre.map i64) ∧ True) ∧ Boxed W b 35 p ∧ Below w.heap.size w W)
  (fun _ (_ : List Int) _ => False)
  (OwnFrom.and (Own.from (holdsRow_own w.heap.size w.heap.size 45 3 1 (fun (pre : List Int) => pre.length) (fun (pre : List Int) => pre.map i64) (fun _ _ => True)) _) (OwnFrom.and boxed_own (ownFrom_below (Nat.le_refl _) (by omega))))
  (fun _ _ _ _ _ hs _ _ => hs)
  ⟨⟨_, bO, World.ownsRow_nil _ _ _ _, trivial⟩, hbb, hB1⟩
  (fun x => { tmps := #[p, undef, .slice none 0 0, pv w.heap.size, i64 x, p, fnv 94 [pv b], i64 x, undef, undef, undef, undef, undef], defers := [] }) ?assign ?body ?done ?stop
 case assign =>
  intro l x W K hK
  gi_wp2
  exact hK
 case body =>
  rintro l pre x W ⟨⟨v, hv, hrow, _⟩, hbx, hB⟩ hlt
  have hc := hv.cell
  gi_wp2_with (gi_at_builtin; refine wpListIn_append_own _ rfl _ _ 45 rfl w.heap.size 3 i0 (.int .i64 0) 1 8 Try.underlying45 hi hz0 hz1 hz2 rfl (by decide) _ _ _ rfl (hrow.alloc _) ⟨W.heap.size, 0, none⟩ 1 1 [.int .i64 x] rfl rfl (cell_one_new _ _ _) (by simp [Value.oneCell']) (by simp [maxLen]; omega) (by omega) (by have := hB.size; simp; omega) ?_; intro v' w1 hown' hgrow _; obtain ⟨g', cap', rfl⟩ := ownsRow_succ hown'; obtain ⟨hv1, hv2, hr2, hk2, hb2⟩ := hv.appended (by decide) hrow hB.size (Nat.le_refl _) hown' hgrow; have hc1 := hv1.cell; have hf1 := hv1.frozen)
  have hq : Boxed w1 b 35 p := (hbx.alloc _).kept hgrow (hbx.not_row (by decide) hrow)
  have hq2 := hq.kept (grownBy_setCell' w1 w.heap.size (.slice (some ⟨g', 0, none⟩) (pre.length + 1) cap')) (by intro e; cases e; omega)
  exact ⟨hk2.from _, frs_of hb2 (show _ = _ from (show _ = _ from hq2).trans (show _ = _ from hbx).symm), ⟨_, hv2, by simpa using hr2, trivial⟩, hq2, hB.trans hb2⟩
 case done =>
  rintro D ys W hD hys ⟨⟨v, hv, hrow, _⟩, hbx, hB⟩ hK
  have hc := hv.cell
  gi_wp2
  refine ⟨by simp, .inl ⟨_, _, rfl, run_takeDeferred hK, ?_⟩⟩
  exact ⟨_, results_tmp rfl _ _ _, v, ys, rfl, hys, ownsRow_putObj hrow _ hK rfl, hB.trans (belowK_b (w := w) (Nat.le_refl _) W D _ _ (by omega) hK rfl rfl)⟩
 case stop =>
  rintro D c pre W _ _ h _
  exact h.elim
theorem Widths_ret (p : Value) (row : List Bool) (w : World) (hp : RdL Value.bool w p row) (hl : row.length ≤ 1000000) : Ret Try.prog 45 #[p] w fun v w' => ∃ ys, ys.length = cw row ∧ M w Nn w' [Rg.sl i64 3 v ys] := by
 refine ⟨⟨_, Try.func45, by kernel_rfl, by kernel_rfl⟩, Calls.mono (callsIn_wide.1 (Widths_in 3 (Nat.le_refl _) p row w hp hl)) ?_⟩
 rintro e W' ⟨v, ys, rfl, h1, h2, h3⟩
 have hn := Rg.sl_new (enc := i64) (e := 3) (v := v) (l := ys) (w := w) (w' := W') h2
 exact ⟨v, rfl, ys, h1, M.ofNew ⟨h3.os, h3.tape, h3.output, h3.size, fun k hk => h3.block k hk⟩ hn.1 hn.2⟩
end Go.Proofs.Ytbinlkobmlebpaa
namespace Go.Proofs.Ytbinlkobmlebpaa
open Go.RowKit Sym
open Fi
def StrV (W H : Int) (dk : List Bool) (bars : Int) (w w' : World) (v : Value) : Prop :=
 (¬ okMat W H dk.length ∧ v = .tuple #[nls, i64 1] ∧ Ext w w') ∨
 (okMat W H dk.length ∧ bars < 1 ∧ v = .tuple #[nls, i64 3] ∧ Ext w w') ∨
 (okMat W H dk.length ∧ 1 ≤ bars ∧ 4096 < (strs dk W.toNat H.toNat bars 0).length ∧ v = .tuple #[nls, i64 4] ∧ Ext w w') ∨
 (okMat W H dk.length ∧ 1 ≤ bars ∧ (strs dk W.toNat H.toNat bars 0).length ≤ 4096 ∧ ∃ vl, v = .tuple #[vl, i64 0] ∧ M w Nn w' [Rg.slF bxc 4 59 vl (strs dk W.toNat H.toNat bars 0)])
theorem quoN {a b : Nat} (hb : 1 ≤ b) (ha : a ≤ 9223372036854775807) : IntKind.i64.wrap ((a : Int).tdiv (b : Int)) = ((a / b : Nat) : Int) := by
 rw [IntWalk.i64_quo _ _ (by omega)]; simp
set_option maxHeartbeats 2000000 in
theorem Stripes_ret (W0 H0 : Int) (vd : Value) (dk : List Bool) (bars : Int) (w : World) (hr : RdL Value.bool w vd dk) :
  Ret Try.prog 16 #[mat W0 H0 vd, i64 bars] w fun v w' => StrV W0 H0 dk bars w w' v := by
 have hM := M.start w
 refine enter Try.func16 rfl (by kernel_rfl) Try.ntmps16 rfl ?_
 refine C.seq <| C.region <| ?_
 refine E.boxM (cs := [i64 W0, i64 H0, vd]) hM rfl (by obtain ⟨a, cap, rfl, _⟩ := hr; rfl) rfl ?_
 intro b2 w0 hM
 try dsimp only [Za, Zb, Zc, Zd, repl] at hM
 refine E.asg rfl rfl <| E.asg rfl rfl <| E.nil <| X.next <| C.seq <| C.seq <| C.region <| ?_
 refine E.loadA (cs := [i64 W0, i64 H0, vd]) rfl Try.underlying37 rfl (by kernel_rfl) (hM.bat 0 rfl) rfl ?_
 refine E.call rfl rfl (Check_ret W0 H0 vd dk.length _ hr.shape) ?_
 rintro _ w1 ⟨rfl, x1⟩
 have hM := hM.ext x1
 try dsimp only [Za, Zb, Zc, Zd, repl] at hM
 refine E.asg rfl rfl <| E.nil <| X.next <| C.seq <| C.region <| E.mv rfl rfl <| E.bin rfl rfl rfl rfl <| E.nil <| X.next <| ?_
 refine C.cond' rfl (fun hC0 => ?_) (fun hC0 => ?_)
 ·
  have hno : ¬ okMat W0 H0 dk.length := fun h => by rw [if_pos h] at hC0; exact hC0 rfl
  refine C.seq <| C.region <| E.mv rfl rfl <| E.asg rfl rfl <| E.asg rfl rfl <| E.nil <| X.next <| C.ret <| X.retT <| ret2 rfl rfl rfl ?_
  exact (by rw [if_neg hno]; exact .inl ⟨hno, rfl, hM.toExt⟩)
 ·
  have hok : okMat W0 H0 dk.length := Decidable.byContradiction fun h => by rw [if_neg h] at hC0; exact hC0 (by decide)
  obtain ⟨W, H, rfl, rfl, ha1, ha2, hb1, hb2, hn, hn2⟩ := okMat_nat hok
  refine C.skip <| X.next <| C.seq <| C.seq <| C.region <| E.mv rfl rfl <| E.bin rfl rfl rfl rfl <| E.nil <| X.next <| ?_
  refine C.cond' rfl (fun hC1 => ?_) (fun hC1 => ?_)
  ·
   refine C.seq <| C.region <| E.asg rfl rfl <| E.asg rfl rfl <| E.nil <| X.next <| C.ret <| X.retT <| ret2 rfl rfl rfl ?_
   exact .inr (.inl ⟨hok, by omega, rfl, hM.toExt⟩)
  ·
   have hbars : 1 ≤ bars := by omega
   have hM := hM.nilF bxc 4 59
   have hrw : ∀ y, y < H → (y + 1) * W ≤ dk.length := fun y hy => by
    have h1 := Nat.mul_le_mul_right W (show y + 1 ≤ H by omega)
    rw [Nat.mul_comm H W, ← hn] at h1; exact h1
   refine C.skip <| X.next <| C.seq <| C.region <| ?_
   refine E.mkfn rfl rfl ?_
   refine E.asg rfl rfl <| E.nil <| X.next <| C.seq <| C.region <| E.asg rfl rfl <| E.nil <| X.next <| C.seq <| C.seq <| C.region <| E.asg rfl rfl <| E.nil <| X.next <| C.block <| ?_

   refine C.loop3 [(1, _), (2, _), (7, _)] rfl (fun (y : Nat) (vl : Value) (l : (List Fi.Bx)) => [(8, vl), (9, i64 y)]) (fun (y : Nat) (vl : Value) (l : (List Fi.Bx)) w' => M w (Nn) w' [Rg.blk b2 37 [i64 W, i64 H, vd], Rg.slF bxc 4 59 vl l] ∧ y ≤ H ∧ l.length ≤ 4096 ∧ l ++ strs dk W H bars y = strs dk W H bars 0) (fun (y : Nat) (vl : Value) (l : (List Fi.Bx)) => H - y) 0 nls [] ?_ ?_ ?_
   · exact Sub.cons rfl <| Sub.cons rfl <| Sub.nil _
   · exact ⟨hM, Nat.zero_le _, Nat.zero_le _, rfl⟩
   rintro y vl l w2 ⟨hM, hy, hl, hs⟩
   refine C.seq <| C.seq <| C.region <| E.mv rfl rfl <| ?_
   refine E.fld (o := 1) (sz := 0) rfl Try.underlying37 rfl rfl (by kernel_rfl) rfl ?_
   refine E.load rfl Try.underlying3 rfl (hM.bcell 0 rfl rfl) rfl ?_
   refine E.bin rfl rfl rfl rfl <| E.nil <| X.next <| ?_
   refine C.cond' rfl (fun hC2 => ?_) (fun hC2 => ?_)
   ·
    have hy' : y < H := by omega
    refine C.skip <| X.next <| C.block <| C.seq <| C.region <| E.mv rfl rfl <| ?_
    refine E.addN (a := y) (b := 1) rfl rfl (by omega) rfl ?_
    refine E.asg rfl rfl <| E.nil <| X.next <| C.seq <| C.block <| ?_

    refine C.loop1 [(1, _), (2, _), (7, _), (8, _), (9, _)] rfl (fun (z : Nat) => [(10, i64 z)]) (fun (z : Nat) w' => M w (Nn) w' [Rg.blk b2 37 [i64 W, i64 H, vd], Rg.slF bxc 4 59 vl l] ∧ y + 1 ≤ z ∧ z ≤ H ∧ nx dk W H y H z = nxt dk W H y) (fun (z : Nat) => H - z) (y + 1) ?_ ?_ ?_
    · exact Sub.cons rfl <| Sub.nil _
    · exact ⟨hM, Nat.le_refl _, by omega, rfl⟩
    rintro z w3 ⟨hM, hz1, hz2, hz3⟩
    refine C.seq <| ?_

    refine C.cut0 [(1, _), (2, _), (7, _), (8, _), (9, _), (10, _)] rfl [(39, .bool (decide (z < H ∧ rowOf dk W z = rowOf dk W y)))] (fun w' => M w (Nn) w' [Rg.blk b2 37 [i64 W, i64 H, vd], Rg.slF bxc 4 59 vl l]) ?_ ?_
    ·
     refine C.region <| E.mv rfl rfl <| ?_
     refine E.fld (o := 1) (sz := 0) rfl Try.underlying37 rfl rfl (by kernel_rfl) rfl ?_
     refine E.load rfl Try.underlying3 rfl (hM.bcell 0 rfl rfl) rfl ?_
     refine E.bin rfl rfl rfl rfl <| E.mv rfl rfl <| ?_
     refine E.split 31 rfl (fun g31 => ?_) (fun g31 => ?_)
     ·
      try simp only [Ya, Yb, Yc, Yd, Ye, Yf] at g31
      have hz' : z < H := by omega
      refine E.on rfl rfl (E.mv rfl rfl ?_)
      refine E.on rfl rfl (E.mv rfl rfl ?_)
      refine E.on rfl rfl (E.callv rfl rfl rfl (row_ret vd dk W H z b2 _ (hM.arg0 hr) (hM.blk 0 rfl) ⟨ha1, ha2⟩ hn hn2 (by omega) hb2) ?_)
      rintro _ w4 ⟨rfl, x4⟩
      have hM := hM.ext x4
      try dsimp only [Za, Zb, Zc, Zd, repl] at hM
      refine E.on rfl rfl (E.mv rfl rfl ?_)
      refine E.on rfl rfl (E.mv rfl rfl ?_)
      refine E.on rfl rfl (E.callv rfl rfl rfl (row_ret vd dk W H y b2 _ (hM.arg0 hr) (hM.blk 0 rfl) ⟨ha1, ha2⟩ hn hn2 (by omega) hb2) ?_)
      rintro _ w5 ⟨rfl, x5⟩
      have hM := hM.ext x5
      try dsimp only [Za, Zb, Zc, Zd, repl] at hM
      refine E.on rfl rfl (E.call rfl rfl (equalB_ret _ _ _ _ _ ((hM.arg0 hr).partV (a := z * W) (b := (z + 1) * W) (Nat.mul_le_mul_right W (by omega)) (hrw z (by omega))) ((hM.arg0 hr).partV (a := y * W) (b := (y + 1) * W) (Nat.mul_le_mul_right W (by omega)) (hrw y (by omega)))) ?_)
      rintro _ w6 ⟨rfl, x6⟩
      have hM := hM.ext x6
      try dsimp only [Za, Zb, Zc, Zd, repl] at hM

      refine E.pick rfl rfl rfl <| E.nil <| X.join0  (Sub.cons (look_eq rfl (congrArg Value.bool (decide_eq_decide.2 ⟨fun h => ⟨hz', h⟩, fun h => h.2⟩))) <| Sub.nil _) rfl hM
     ·
      try simp only [Ya, Yb, Yc, Yd, Ye, Yf] at g31

      refine E.off rfl rfl rfl rfl <| E.off rfl rfl rfl rfl <| E.off rfl rfl rfl rfl <| E.off rfl rfl rfl rfl <| E.off rfl rfl rfl rfl <| E.off rfl rfl rfl rfl <| E.off rfl rfl rfl rfl <| E.pick rfl rfl rfl <| E.nil <| X.join0  (Sub.cons (look_eq rfl (congrArg Value.bool (decide_eq_false (fun h => by omega)).symm)) <| Sub.nil _) rfl hM
    rintro  w7 hM
    refine C.cond' rfl (fun hC3 => ?_) (fun hC3 => ?_)
    ·
     refine C.skip <| X.next <| C.block <| C.region <| E.mv rfl rfl <| ?_
     refine E.addN (a := z) (b := 1) rfl rfl (by omega) rfl ?_

     refine E.asg rfl rfl <| E.nil <| X.outN <| X.again1 (z + 1) (Sub.cons rfl <| Sub.nil _) rfl ⟨hM, by omega, by omega, by rw [← nx_step hC3]; exact hz3⟩ (by omega)
    ·
     have hzn : nxt dk W H y = z := by rw [← hz3]; exact nx_stop hC3
     have hst := strs_step (dk := dk) (W := W) (bars := bars) hy'
     rw [hzn] at hst
     have hlen := rowOf_len hn hy'
     have hmar := mar_spec (rowOf dk W y)
     refine C.exit <| X.exitT <| X.exitT <| X.outE <| X.next <| ?_

     refine C.cut2 [(1, _), (2, _), (7, _), (10, _)] rfl (fun (vl : Value) (l : (List Fi.Bx)) => [(8, vl)]) (fun (vl : Value) (l : (List Fi.Bx)) w' => M w (Nn) w' [Rg.blk b2 37 [i64 W, i64 H, vd], Rg.slF bxc 4 59 vl l] ∧ l.length ≤ 4096 ∧ l ++ strs dk W H bars z = strs dk W H bars 0) ?_ ?_
     ·
      refine C.seq <| C.region <| E.mv rfl rfl <| E.mv rfl rfl <| ?_
      refine E.callv rfl rfl rfl (row_ret vd dk W H y b2 _ (hM.arg0 hr) (hM.blk 0 rfl) ⟨ha1, ha2⟩ hn hn2 (by omega) hb2) ?_
      rintro _ w8 ⟨rfl, x8⟩
      have hM := hM.ext x8
      try dsimp only [Za, Zb, Zc, Zd, repl] at hM
      refine E.call rfl rfl (Widths_ret _ (rowOf dk W y) _ ((hM.arg0 hr).partV (a := y * W) (b := (y + 1) * W) (Nat.mul_le_mul_right W (by omega)) (hrw y (by omega))) (by omega)) ?_
      rintro v45 w9 ⟨ys, hys, m9⟩
      have hM := hM.call m9
      try dsimp only [Za, Zb, Zc, Zd, repl] at hM
      refine E.lenv rfl (Rd.shape (hM.sl 2 rfl)) Try.underlying45 rfl ?_
      have hcl : cw (rowOf dk W y) ≤ 8192 := by
       have := brs_le (rowOf dk W y) (rowOf dk W y).length
       unfold cw; omega
      have hch := cw_half (rowOf dk W y)
      rw [hys]
      have hM := hM.pick [0, 1] (by decide)
      refine E.addN (a := cw (rowOf dk W y)) (b := 1) rfl rfl (by omega) rfl ?_
      refine E.quo rfl rfl (by omega) (quoN (a := cw (rowOf dk W y) + 1) (b := 2) (by omega) (by omega)) rfl ?_
      rw [hch]
      refine E.mv rfl rfl <| E.bin rfl rfl rfl rfl <| E.nil <| X.next <| ?_
      refine C.cond' rfl (fun hC4 => ?_) (fun hC4 => ?_)
      ·
       have hsb : sbx bars (rowOf dk W y) y (z - y) = some ⟨lft (rowOf dk W y), y, (W : Int) - lft (rowOf dk W y) - rgt (rowOf dk W y), (z - y : Nat)⟩ := by
        unfold sbx; rw [if_pos (by omega), hlen]
       rw [hsb] at hst
       refine C.seq <| C.seq <| C.region <| E.mv rfl rfl <| ?_
       refine E.lenv rfl (RdF.shape (hM.slF 1 rfl)) Try.underlying39 rfl ?_
       refine E.bin rfl rfl rfl rfl <| E.nil <| X.next <| ?_
       refine C.cond' rfl (fun hC5 => ?_) (fun hC5 => ?_)
       ·
        refine C.seq <| C.region <| E.asg rfl rfl <| E.asg rfl rfl <| E.nil <| X.next <| C.ret <| X.retT <| X.retT <| X.retB <| X.retT <| X.retB <| X.retT <| ret2 rfl rfl rfl ?_
        exact .inr (.inr (.inl ⟨hok, hbars, by rw [Int.toNat_natCast, Int.toNat_natCast, ← hs, hst, List.length_append, List.length_append]; simp; omega, rfl, hM.toExt⟩))
       ·
        refine C.skip <| X.next <| C.seq <| C.region <| E.mv rfl rfl <| E.mv rfl rfl <| ?_
        refine E.callv rfl rfl rfl (row_ret vd dk W H y b2 _ (hM.arg0 hr) (hM.blk 0 rfl) ⟨ha1, ha2⟩ hn hn2 (by omega) hb2) ?_
        rintro _ w10 ⟨rfl, x10⟩
        have hM := hM.ext x10
        try dsimp only [Za, Zb, Zc, Zd, repl] at hM
        refine E.call rfl rfl (Margins_ret _ (rowOf dk W y) _ ((hM.arg0 hr).partV (a := y * W) (b := (y + 1) * W) (Nat.mul_le_mul_right W (by omega)) (hrw y (by omega))) (by omega)) ?_
        rintro _ w11 ⟨lo, ro, rfl, hmr, x11⟩
        have hM := hM.ext x11
        obtain ⟨hlo, hro⟩ := mar_one hmr
        have hm1 := hmr.1
        have hm4 := hmr.2.2.2.1
        try dsimp only [Za, Zb, Zc, Zd, repl] at hM
        refine E.mv rfl rfl <| E.ext rfl rfl rfl <| E.ext rfl rfl rfl <| E.asg rfl rfl <| E.asg rfl rfl <| E.nil <| X.next <| C.region <| E.mv rfl rfl <| E.mv rfl rfl <| E.mv rfl rfl <| ?_
        refine E.fld (o := 0) (sz := 0) rfl Try.underlying37 rfl rfl (by kernel_rfl) rfl ?_
        refine E.load rfl Try.underlying3 rfl (hM.bcell 0 rfl rfl) rfl ?_
        refine E.mv rfl rfl <| ?_
        refine E.sub' rfl rfl (by omega) rfl ?_
        refine E.mv rfl rfl <| ?_
        refine E.sub' rfl rfl (by omega) rfl ?_
        refine E.mv rfl rfl <| E.mv rfl rfl <| ?_
        refine E.subN (a := z) (b := y) rfl rfl (by omega) rfl ?_
        refine E.buildC (cs := [_, _, _, _]) [.int .i64 0, .int .i64 0, .int .i64 0, .int .i64 0] [0, 1, 2, 3] rfl rfl (by kernel_rfl) rfl ?_
        refine E.pushFM 1 (⟨lft (rowOf dk W y), y, (W : Int) - lft (rowOf dk W y) - rgt (rowOf dk W y), (z - y : Nat)⟩ : Fi.Bx) hM rfl rfl (by rw [← hlo, ← hro]; rfl) Try.underlying39 elem_Tapi_Box rfl (by decide) (ones rfl <| ones rfl <| ones rfl <| ones rfl <| ones_nil) (by omega) (by omega) (by simp) rfl rfl ?_
        intro v75 u75 w12 hM
        try dsimp only [Za, Zb, Zc, Zd, repl] at hM

        refine E.asg rfl rfl <| E.nil <| X.join2 _ _ (Sub.cons rfl <| Sub.nil _) rfl ⟨hM.pick [0, 1] (by decide), by rw [List.length_append, List.length_singleton]; omega, by rw [← hs, hst]; simp⟩
      ·
       have hsb : sbx bars (rowOf dk W y) y (z - y) = none := by
        unfold sbx; rw [if_neg (by omega)]
       rw [hsb] at hst

       refine C.skip <| X.join2 vl l (Sub.cons rfl <| Sub.nil _) rfl ⟨hM, hl, by rw [← hs, hst]; simp⟩
     rintro vl l w13 ⟨hM, hl, hs⟩

     refine C.region <| E.mv rfl rfl <| E.asg rfl rfl <| E.nil <| X.outN <| X.again3 z vl l (Sub.cons rfl <| Sub.cons rfl <| Sub.nil _) rfl ⟨hM, hz2, hl, hs⟩ (by omega)
   ·
    obtain rfl : y = H := by omega
    rw [strs_end (Nat.le_refl _), List.append_nil] at hs
    rw [hs] at hM hl
    refine C.exit <| X.exitT <| X.exitT <| X.outE <| X.next <| C.seq <| C.region <| E.mv rfl rfl <| E.asg rfl rfl <| E.asg rfl rfl <| E.nil <| X.next <| C.ret <| ret2 rfl rfl rfl ?_
    exact .inr (.inr (.inr ⟨hok, hbars, by rw [Int.toNat_natCast, Int.toNat_natCast]; exact hl, vl, rfl, by rw [Int.toNat_natCast, Int.toNat_natCast]; exact hM.pick [1] (by decide)⟩))
end Go.Proofs.Ytbinlkobmlebpaa
namespace Go.Proofs.Ytbinlkobmlebpaa
open Go.RowKit Sym
namespace Fi
def pd (s j i : Nat) : Bool := decide (max (max (((i / s : Nat) : Int) - 3) (3 - ((i / s : Nat) : Int))) (max (((j / s : Nat) : Int) - 3) (3 - ((j / s : Nat) : Int))) ≠ 2)
def pt (s x y r c : Nat) : Bool := decide (y ≤ r ∧ r < y + 7 * s ∧ x ≤ c ∧ c < x + 7 * s) && pd s (r - y) (c - x)
def pat (W H x y s : Nat) : List Bool := tab (W * H) fun k => pt s x y (k / W) (k % W)
def PI (W H x y s j i : Nat) (l : List Bool) : Prop := l.length = W * H ∧ ∀ r c, r < H → c < W → l[r * W + c]? = some (decide (y ≤ r ∧ (r < y + j ∨ (r = y + j ∧ c < x + i)) ∧ x ≤ c ∧ c < x + 7 * s) && pd s (r - y) (c - x))
theorem PI.init {W H x y s : Nat} : PI W H x y s 0 0 (List.replicate (W * H) false) := by
 refine ⟨by simp, fun r c hr hc => ?_⟩
 have h1 := Nat.mul_le_mul_right W (show r + 1 ≤ H by omega)
 rw [Nat.add_mul, Nat.one_mul, Nat.mul_comm H W] at h1
 rw [List.getElem?_replicate, if_pos (by omega), decide_eq_false (by omega), Bool.false_and]
theorem rc_inj {W r c r' c' : Nat} (hc : c < W) (hc' : c' < W) (h : r * W + c = r' * W + c') : r = r' ∧ c = c' := by
 have e1 : (r * W + c) / W = r := by rw [Nat.add_comm, Nat.add_mul_div_right _ _ (by omega), Nat.div_eq_of_lt hc, Nat.zero_add]
 have e2 : (r' * W + c') / W = r' := by rw [Nat.add_comm, Nat.add_mul_div_right _ _ (by omega), Nat.div_eq_of_lt hc', Nat.zero_add]
 have : r = r' := by rw [← e1, ← e2, h]
 subst this; omega
theorem PI.set {W H x y s j i : Nat} {l : List Bool} (h : PI W H x y s j i l) (hi : i < 7 * s) (hx : x + 7 * s ≤ W) : PI W H x y s j (i + 1) (l.set ((y + j) * W + x + i) (pd s j i)) := by
  refine ⟨by rw [List.length_set]; exact h.1, fun r c hr hc => ?_⟩
  have h1 := Nat.mul_le_mul_right W (show r + 1 ≤ H by omega)
  rw [Nat.add_mul, Nat.one_mul, Nat.mul_comm H W] at h1
  rw [List.getElem?_set]
  split
  · rename_i he
    obtain ⟨rfl, rfl⟩ := rc_inj (W := W) (by omega) hc (show (y + j) * W + (x + i) = r * W + c by omega)
    rw [if_pos (by rw [h.1]; omega), decide_eq_true (by omega), Bool.true_and]
    congr 2 <;> omega
  · rename_i he
    rw [h.2 r c hr hc]
    congr 2
    refine decide_eq_decide.2 ?_
    constructor
    · rintro ⟨a, b, d, e⟩; exact ⟨a, by omega, d, e⟩
    · rintro ⟨a, b, d, e⟩
      refine ⟨a, ?_, d, e⟩
      rcases b with b | ⟨b1, b2⟩
      · exact .inl b
      · refine .inr ⟨b1, ?_⟩
        rcases Nat.lt_or_ge c (x + i) with z | z
        · exact z
        · exact (he (by rw [b1, show c = x + i by omega]; omega)).elim
theorem PI.row {W H x y s j : Nat} {l : List Bool} (h : PI W H x y s j (7 * s) l) : PI W H x y s (j + 1) 0 l := by
 refine ⟨h.1, fun r c hr hc => ?_⟩
 rw [h.2 r c hr hc]
 congr 2
 refine decide_eq_decide.2 ?_
 omega
theorem PI.done {W H x y s : Nat} {l : List Bool} (h : PI W H x y s (7 * s) 0 l) : l = pat W H x y s := by
 refine tab_eq h.1 fun k hk => ?_
 have hW : 0 < W := by
  rcases Nat.eq_zero_or_pos W with e | e
  · rw [e, Nat.zero_mul] at hk; omega
  · exact e
 have h1 := h.2 (k / W) (k % W) (Nat.div_lt_of_lt_mul hk) (Nat.mod_lt _ hW)
 rw [show k / W * W + k % W = k by rw [Nat.mul_comm]; exact Nat.div_add_mod k W] at h1
 rw [h1]
 unfold pt
 congr 2
 refine decide_eq_decide.2 ?_
 omega
theorem pat_len (W H x y s : Nat) : (pat W H x y s).length = W * H := tab_len _ _
end Fi
end Go.Proofs.Ytbinlkobmlebpaa
