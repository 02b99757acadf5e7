/- finder: marks are looked up; versions, distances. -/
import Derived.Test.Ytbinlkobmlebpaax0
import Derived.Test.Ytbinlkobmlebpaax4
import Derived.Test.YtbinlkobmlebpaaFd21x
set_option linter.unusedSimpArgs false
set_option linter.unusedVariables false
namespace Go.Proofs.Ytbinlkobmlebpaa
open Go.RowKit Sym
open Fi
def isAt (m : Mk) (x y z : Int) : Prop := m.x = x ∧ m.y = y ∧ m.s = z
instance (m : Mk) (x y z : Int) : Decidable (isAt m x y z) := by unfold isAt; exact inferInstance
theorem at_ret (p : Value) (l : List Mk) (x y z : Int) (w : World) (hp : RdF mkc 4 w p l) :
  Ret Try.prog 23 #[p, i64 x, i64 y, i64 z] w fun v w' => ∃ r : Int, v = i64 r ∧ ((∃ (k : Nat) (h : k < l.length), r = k ∧ isAt l[k] x y z) ∨ (r = -1 ∧ ∀ m ∈ l, ¬ isAt m x y z)) ∧ Ext w w' := by
 have hM := M.start w
 refine enter Try.func23 rfl (by kernel_rfl) Try.ntmps23 rfl ?_
 refine C.seq <| C.region <| E.asg rfl rfl <| E.nil <| X.next <| C.seq <| C.seq <| C.region <| E.mv rfl rfl <| ?_
 refine E.lenv rfl (RdF.shape (hM.argF0 hp)) Try.underlying22 rfl ?_
 refine E.mv rfl rfl <| E.nil <| X.next <| C.block <| ?_

 refine C.loop1 [(0, _), (1, _), (2, _), (3, _), (11, _)] rfl (fun (k : Nat) => [(12, i64 k)]) (fun (k : Nat) w' => M w (Nn) w' [] ∧ k ≤ l.length ∧ ∀ j (h : j < l.length), j < k → ¬ isAt l[j] x y z) (fun (k : Nat) => l.length - k) 0 ?_ ?_ ?_
 · exact Sub.cons rfl <| Sub.nil _
 · exact ⟨hM, Nat.zero_le _, fun j h h0 => absurd h0 (Nat.not_lt_zero _)⟩
 rintro k w0 ⟨hM, hk, hno⟩
 refine C.seq <| C.region <| E.bin rfl rfl rfl rfl <| E.nil <| X.next <| C.seq <| ?_
 refine C.cond' rfl (fun hC0 => ?_) (fun hC0 => ?_)
 ·
  have hk' : k < l.length := by omega
  have hle := RdF.le hp
  refine C.skip <| X.next <| C.seq <| C.block <| C.seq <| C.region <| E.mv rfl rfl <| E.asg rfl rfl <| E.nil <| X.next <| ?_

  refine C.chainE [(0, _), (1, _), (2, _), (3, _), (9, _), (11, _), (12, _)] rfl [(39, .bool (decide (isAt l[k] x y z)))] ?_ ?_
  ·
   refine C.region <| E.mv rfl rfl <| E.mv rfl rfl <| ?_
   refine E.idxF (k := k) rfl rfl (hM.argF0 hp) rfl hk' (by decide) Try.underlying22 (by kernel_rfl) rfl ?_
   refine E.fld (o := 0) (sz := 0) rfl Try.underlying24 rfl rfl (by kernel_rfl) rfl ?_
   refine E.load rfl Try.underlying3 rfl ((hM.argF0 hp).atA (k := k) (o := 0) rfl hk' rfl) rfl ?_
   refine E.mv rfl rfl <| E.bin rfl rfl rfl rfl <| E.mv rfl rfl <| ?_
   refine E.split 22 rfl (fun g22 => ?_) (fun g22 => ?_)
   ·
    try simp only [Ya, Yb, Yc, Yd, Ye, Yf] at g22
    refine E.on rfl rfl (E.mv rfl rfl ?_)
    refine E.on rfl rfl (E.mv rfl rfl ?_)
    refine E.on rfl rfl (E.idxF (k := k) rfl rfl (hM.argF0 hp) rfl hk' (by decide) Try.underlying22 (by kernel_rfl) rfl ?_)
    refine E.on rfl rfl (E.fld (o := 1) (sz := 0) rfl Try.underlying24 rfl rfl (by kernel_rfl) rfl ?_)
    refine E.on rfl rfl (E.load rfl Try.underlying3 rfl ((hM.argF0 hp).atA (k := k) (o := 1) rfl hk' rfl) rfl ?_)
    refine E.on rfl rfl (E.mv rfl rfl ?_)
    refine E.on rfl rfl (E.bin rfl rfl rfl rfl ?_)
    refine E.pick rfl rfl rfl <| E.mv rfl rfl <| ?_
    refine E.split 31 rfl (fun g31 => ?_) (fun g31 => ?_)
    ·
     try simp only [Ya, Yb, Yc, Yd, Ye, Yf] at g31
     refine E.on rfl rfl (E.mv rfl rfl ?_)
     refine E.on rfl rfl (E.mv rfl rfl ?_)
     refine E.on rfl rfl (E.idxF (k := k) rfl rfl (hM.argF0 hp) rfl hk' (by decide) Try.underlying22 (by kernel_rfl) rfl ?_)
     refine E.on rfl rfl (E.fld (o := 2) (sz := 0) rfl Try.underlying24 rfl rfl (by kernel_rfl) rfl ?_)
     refine E.on rfl rfl (E.load rfl Try.underlying3 rfl ((hM.argF0 hp).atA (k := k) (o := 2) rfl hk' rfl) rfl ?_)
     refine E.on rfl rfl (E.mv rfl rfl ?_)
     refine E.on rfl rfl (E.bin rfl rfl rfl rfl ?_)
     refine E.pick rfl rfl rfl <| E.nil <| X.join0 (Sub.cons (look_eq rfl (congrArg Value.bool (by unfold isAt; first | exact (decide_eq_false (by omega)).symm | exact decide_eq_decide.2 ⟨fun h => ⟨by omega, by omega, h⟩, fun h => h.2.2⟩))) <| Sub.nil _) rfl rfl
    ·
     try simp only [Ya, Yb, Yc, Yd, Ye, Yf] at g31
     refine E.off rfl rfl rfl rfl <| E.off rfl rfl rfl rfl <| E.off rfl rfl rfl rfl <| E.off rfl rfl rfl rfl <| E.off rfl rfl rfl rfl <| E.off rfl rfl rfl rfl <| E.off rfl rfl rfl rfl <| E.pick rfl rfl rfl <| E.nil <| X.join0 (Sub.cons (look_eq rfl (congrArg Value.bool (by unfold isAt; first | exact (decide_eq_false (by omega)).symm | exact decide_eq_decide.2 ⟨fun h => ⟨by omega, by omega, h⟩, fun h => h.2.2⟩))) <| Sub.nil _) rfl rfl
   ·
    try simp only [Ya, Yb, Yc, Yd, Ye, Yf] at g22
    refine E.off rfl rfl rfl rfl <| E.off rfl rfl rfl rfl <| E.off rfl rfl rfl rfl <| E.off rfl rfl rfl rfl <| E.off rfl rfl rfl rfl <| E.off rfl rfl rfl rfl <| E.off rfl rfl rfl rfl <| E.pick rfl rfl rfl <| E.mv rfl rfl <| E.off rfl rfl rfl rfl <| E.off rfl rfl rfl rfl <| E.off rfl rfl rfl rfl <| E.off rfl rfl rfl rfl <| E.off rfl rfl rfl rfl <| E.off rfl rfl rfl rfl <| E.off rfl rfl rfl rfl <| E.pick rfl rfl rfl <| E.nil <| X.join0 (Sub.cons (look_eq rfl (congrArg Value.bool (by unfold isAt; first | exact (decide_eq_false (by omega)).symm | exact decide_eq_decide.2 ⟨fun h => ⟨by omega, by omega, h⟩, fun h => h.2.2⟩))) <| Sub.nil _) rfl rfl
  refine C.cond' rfl (fun hC1 => ?_) (fun hC1 => ?_)
  ·
   refine C.seq <| C.region <| E.mv rfl rfl <| E.asg rfl rfl <| E.nil <| X.next <| C.ret <| X.retB <| X.retT <| X.retT <| X.retB <| X.retT <| ret1 rfl rfl ?_
   exact ⟨_, rfl, .inl ⟨k, hk', rfl, hC1⟩, hM.toExt⟩
  ·
   refine C.skip <| X.outN <| X.next <| C.region <| ?_
   refine E.addN (a := k) (b := 1) rfl rfl (by omega) rfl ?_

   refine E.mv rfl rfl <| E.nil <| X.again1 (k + 1) (Sub.cons rfl <| Sub.nil _) rfl ⟨hM, by omega, fun j h hj => if e : j = k then by subst e; exact hC1 else hno j h (by omega)⟩ (by omega)
 ·
  obtain rfl : k = l.length := by omega
  refine C.exit <| X.exitT <| X.exitT <| X.outE <| X.next <| C.seq <| C.region <| E.asg rfl rfl <| E.nil <| X.next <| C.ret <| ret1 rfl rfl ?_
  exact ⟨_, rfl, .inr ⟨rfl, fun m hm => by obtain ⟨j, hj, rfl⟩ := List.getElem_of_mem hm; exact hno j hj hj⟩, hM.toExt⟩
theorem Version_ret (n : Nat) (vd : Value) (dk : List Bool) (u : Nat) (w : World) (hr : RdL Value.bool w vd dk) (hn : n = 17 + 4 * u) (hu : 1 ≤ u ∧ u ≤ 6) (hl : dk.length = n * n) :
  Ret Try.prog 52 #[mat n n vd] w fun v w' => v = .tuple #[i64 u, i64 0] ∧ Ext w w' := by
 have hM := M.start w
 refine enter Try.func52 rfl (by kernel_rfl) Try.ntmps52 rfl ?_
 refine C.seq <| C.region <| ?_
 refine E.boxM (cs := [i64 n, i64 n, vd]) hM rfl (by obtain ⟨a, cap, rfl, _⟩ := hr; rfl) rfl ?_
 intro b1 w0 hM
 try dsimp only [Za, Zb, Zc, Zd, repl] at hM
 refine E.asg rfl rfl <| E.asg rfl rfl <| E.nil <| X.next <| C.seq <| C.seq <| C.region <| ?_
 refine E.loadA (cs := [i64 n, i64 n, vd]) rfl Try.underlying37 rfl (by kernel_rfl) (hM.bat 0 rfl) rfl ?_
 refine E.call rfl rfl (Sound_ret n n vd dk _ (hM.arg0 hr)) ?_
 rintro _ w1 ⟨rfl, x1⟩
 have hM := hM.ext x1
 have hsq : n * n ≤ 41 * 41 := Nat.mul_le_mul (by omega) (by omega)
 have hok : okMat (n : Int) n dk.length := ⟨⟨by omega, by omega, by omega, by omega, by rw [← Int.natCast_mul]; omega⟩, by rw [hl, Int.natCast_mul]⟩
 rw [decide_eq_true hok]
 try dsimp only [Za, Zb, Zc, Zd, repl] at hM
 refine E.not rfl rfl <| E.nil <| X.next <| ?_
 refine C.cond rfl (fun hC0 => ?_) (fun hC0 => ?_)
 ·
  cases hC0
 ·
  refine C.skip <| X.next <| C.seq <| ?_

  refine C.chainE [(1, _)] rfl [(27, .bool (decide False))] ?_ ?_
  ·
   refine C.region <| ?_
   refine E.fld (o := 0) (sz := 0) rfl Try.underlying37 rfl rfl (by kernel_rfl) rfl ?_
   refine E.load rfl Try.underlying3 rfl (hM.bcell 0 rfl rfl) rfl ?_
   refine E.fld (o := 1) (sz := 0) rfl Try.underlying37 rfl rfl (by kernel_rfl) rfl ?_
   refine E.load rfl Try.underlying3 rfl (hM.bcell 0 rfl rfl) rfl ?_
   refine E.bin rfl rfl rfl rfl <| E.mv rfl rfl <| ?_
   refine E.split 12 rfl (fun g12 => ?_) (fun g12 => ?_)
   ·
    try simp only [Ya, Yb, Yc, Yd, Ye, Yf] at g12
    refine E.off rfl rfl rfl rfl <| E.off rfl rfl rfl rfl <| E.off rfl rfl rfl rfl <| E.pick rfl rfl rfl <| E.mv rfl rfl <| E.off rfl rfl rfl rfl <| E.off rfl rfl rfl rfl <| E.off rfl rfl rfl rfl <| E.pick rfl rfl rfl <| E.mv rfl rfl <| E.off rfl rfl rfl rfl <| E.off rfl rfl rfl rfl <| E.off rfl rfl rfl rfl <| E.off rfl rfl rfl rfl <| E.pick rfl rfl rfl <| E.nil <| X.join0 (Sub.cons (look_eq rfl (congrArg Value.bool (by (exfalso; exact g12 trivial)))) <| Sub.nil _) rfl rfl
   ·
    try simp only [Ya, Yb, Yc, Yd, Ye, Yf] at g12
    refine E.on rfl rfl (E.fld (o := 0) (sz := 0) rfl Try.underlying37 rfl rfl (by kernel_rfl) rfl ?_)
    refine E.on rfl rfl (E.load rfl Try.underlying3 rfl (hM.bcell 0 rfl rfl) rfl ?_)
    refine E.on rfl rfl (E.bin rfl rfl rfl rfl ?_)
    refine E.pick rfl rfl rfl <| E.mv rfl rfl <| ?_
    refine E.split 17 rfl (fun g17 => ?_) (fun g17 => ?_)
    ·
     try simp only [Ya, Yb, Yc, Yd, Ye, Yf] at g17
     refine E.off rfl rfl rfl rfl <| E.off rfl rfl rfl rfl <| E.off rfl rfl rfl rfl <| E.pick rfl rfl rfl <| E.mv rfl rfl <| E.off rfl rfl rfl rfl <| E.off rfl rfl rfl rfl <| E.off rfl rfl rfl rfl <| E.off rfl rfl rfl rfl <| E.pick rfl rfl rfl <| E.nil <| X.join0 (Sub.cons (look_eq rfl (congrArg Value.bool (by (exfalso; omega)))) <| Sub.nil _) rfl rfl
    ·
     try simp only [Ya, Yb, Yc, Yd, Ye, Yf] at g17
     refine E.on rfl rfl (E.fld (o := 0) (sz := 0) rfl Try.underlying37 rfl rfl (by kernel_rfl) rfl ?_)
     refine E.on rfl rfl (E.load rfl Try.underlying3 rfl (hM.bcell 0 rfl rfl) rfl ?_)
     refine E.on rfl rfl (E.bin rfl rfl rfl rfl ?_)
     refine E.pick rfl rfl rfl <| E.mv rfl rfl <| ?_
     refine E.split 22 rfl (fun g22 => ?_) (fun g22 => ?_)
     ·
      try simp only [Ya, Yb, Yc, Yd, Ye, Yf] at g22
      refine E.off rfl rfl rfl rfl <| E.off rfl rfl rfl rfl <| E.off rfl rfl rfl rfl <| E.off rfl rfl rfl rfl <| E.pick rfl rfl rfl <| E.nil <| X.join0 (Sub.cons (look_eq rfl (congrArg Value.bool (by (exfalso; omega)))) <| Sub.nil _) rfl rfl
     ·
      try simp only [Ya, Yb, Yc, Yd, Ye, Yf] at g22
      refine E.on rfl rfl (E.fld (o := 0) (sz := 0) rfl Try.underlying37 rfl rfl (by kernel_rfl) rfl ?_)
      refine E.on rfl rfl (E.load rfl Try.underlying3 rfl (hM.bcell 0 rfl rfl) rfl ?_)
      refine E.on rfl rfl (E.rem rfl rfl (by omega) (IntWalk.rem_in _ _ (by omega)) rfl ?_)
      refine E.on rfl rfl (E.bin rfl rfl rfl rfl ?_)
      refine E.pick rfl rfl rfl <| E.nil <| X.join0 (Sub.cons (look_eq rfl (congrArg Value.bool (by exact decide_eq_decide.2 ⟨fun h => by omega, fun h => by cases h⟩))) <| Sub.nil _) rfl rfl
  refine C.cond' rfl (fun hC1 => ?_) (fun hC1 => ?_)
  ·
   cases hC1
  ·
   refine C.skip <| X.next <| C.seq <| C.region <| ?_
   refine E.fld (o := 0) (sz := 0) rfl Try.underlying37 rfl rfl (by kernel_rfl) rfl ?_
   refine E.load rfl Try.underlying3 rfl (hM.bcell 0 rfl rfl) rfl ?_
   refine E.subN (a := n) (b := 17) rfl rfl (by omega) rfl ?_
   refine E.quo rfl rfl (by omega) (quoN (a := n - 17) (b := 4) (by omega) (by omega)) rfl ?_
   rw [show (n - 17) / 4 = u by omega]
   refine E.asg rfl rfl <| E.asg rfl rfl <| E.nil <| X.next <| C.ret <| ret2 rfl rfl rfl ?_
   exact ⟨rfl, hM.toExt⟩
theorem far_ret (x y a b : Int) (w : World) (h : -1000000 ≤ x ∧ x ≤ 1000000 ∧ -1000000 ≤ y ∧ y ≤ 1000000 ∧ -1000000 ≤ a ∧ a ≤ 1000000 ∧ -1000000 ≤ b ∧ b ≤ 1000000) :
  Ret Try.prog 72 #[i64 x, i64 y, i64 a, i64 b] w fun v w' => v = i64 (max (max (x - a) (a - x)) (max (y - b) (b - y))) ∧ Ext w w' := by
 have hM := M.start w
 refine enter Try.func72 rfl (by kernel_rfl) Try.ntmps72 rfl ?_
 refine C.seq <| C.region <| E.asg rfl rfl <| E.nil <| X.next <| C.seq <| C.region <| E.mv rfl rfl <| E.mv rfl rfl <| ?_
 refine E.sub' rfl rfl (by omega) rfl ?_
 refine E.mv rfl rfl <| E.mv rfl rfl <| ?_
 refine E.sub' rfl rfl (by omega) rfl ?_
 refine E.max2 rfl rfl rfl <| E.mv rfl rfl <| E.mv rfl rfl <| ?_
 refine E.sub' rfl rfl (by omega) rfl ?_
 refine E.mv rfl rfl <| E.mv rfl rfl <| ?_
 refine E.sub' rfl rfl (by omega) rfl ?_
 refine E.max2 rfl rfl rfl <| E.max2 rfl rfl rfl <| E.asg rfl rfl <| E.nil <| X.next <| C.ret <| ret1 rfl rfl ?_
 exact ⟨rfl, hM.toExt⟩
end Go.Proofs.Ytbinlkobmlebpaa
