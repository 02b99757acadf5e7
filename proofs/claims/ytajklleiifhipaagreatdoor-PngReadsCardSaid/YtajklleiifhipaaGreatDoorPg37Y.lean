/- the reference's header, gray values. -/
import Derived.Test.YtajklleiifhipaaGreatDoorY0
import Derived.Test.YtajklleiifhipaaGreatDoorY5
import Derived.Test.YtajklleiifhipaaGreatDoorY21
import Derived.Test.YtajklleiifhipaaGreatDoorY22
import Derived.Test.YtajklleiifhipaaGreatDoorPg18Y
import Derived.Test.YtajklleiifhipaaGreatDoorPg36Y
set_option linter.unusedSimpArgs false
set_option linter.unusedVariables false
namespace Go.Proofs.YtajklleiifhipaaGreatDoor
open Go.RowKit Sym
open Pg
set_option maxHeartbeats 2000000 in
theorem header35_ret (p : Value) (l : List UInt8) (w : World) (hp : RdL u8 w p l) (h13 : l.length = 13) :
  Ret Tryz.prog 33 #[p] w fun v w' => ∃ (W H D e : Int), v = .tuple #[i64 W, i64 H, i64 D, i64 e] ∧ Ext w w' ∧ ((e ≠ 0 ∧ ∀ z any, img l z any = .error e) ∨ (e = 0 ∧ ∃ wd ht d : Nat, W = wd ∧ H = ht ∧ D = d ∧ wd = Jn.dec4 l ∧ ht = Jn.dec4 (l.drop 4) ∧ d = at_ l 8 ∧ ¬ (wd < 1 ∨ 4096 < wd ∨ ht < 1 ∨ 4096 < ht ∨ 4194304 < wd * ht) ∧ ¬ ((d ≠ 1 ∧ d ≠ 2 ∧ d ≠ 4 ∧ d ≠ 8) ∨ at_ l 9 ≠ 0) ∧ ¬ (at_ l 10 ≠ 0 ∨ at_ l 11 ≠ 0 ∨ at_ l 12 ≠ 0))) := by
 have hM := M.start w
 refine enter Tryz.func33 rfl (by kernel_rfl) Tryz.ntmps33 rfl $ Kb $ Kn rfl $ Kn rfl $ Kn rfl $ Kc rfl $ C.seq $ C.drawn (by kernel_rfl) (by kernel_rfl) $ Q.mv rfl rfl $ ?_
 obtain ⟨wd, hwd⟩ : ∃ n, n = Jn.dec4 l := ⟨_, rfl⟩
 obtain ⟨ht, hht⟩ : ∃ n, n = Jn.dec4 (l.drop 4) := ⟨_, rfl⟩
 obtain ⟨d, hd⟩ : ∃ n, n = at_ l 8 := ⟨_, rfl⟩
 have hwl := Jn.dec4_lt l
 rw [← hwd] at hwl
 have hhl := Jn.dec4_lt (l.drop 4)
 rw [← hht] at hhl
 have hdl2 := at_le l 8
 rw [← hd] at hdl2
 have himg : ∀ z any, img l z any = if wd < 1 ∨ 4096 < wd ∨ ht < 1 ∨ 4096 < ht ∨ 4194304 < wd * ht then .error 23 else if (d ≠ 1 ∧ d ≠ 2 ∧ d ≠ 4 ∧ d ≠ 8) ∨ at_ l 9 ≠ 0 then .error 9 else if at_ l 10 ≠ 0 ∨ at_ l 11 ≠ 0 ∨ at_ l 12 ≠ 0 then .error 37 else if any = false then .error 33 else match Df.unw z ((ht * wid wd d : Nat) : Int) with
   | .error e => .error e
   | .ok data => if data.length < ht * wid wd d then .error 10
    else match rwk data (wid wd d) wd d ht with
     | .error e => .error e
     | .ok (_, pix) => .ok (wd, ht, pix) := fun z any => by
  rw [hwd, hht, hd]; rfl
 refine Q.call (v := i64 (wd : Int)) rfl rfl (fun w' hw' => by rw [hwd]; exact n35_ret _ _ w' ((hM.arg0 hp).ext hw') (by omega)) $ Q.mv rfl rfl $ Q.slcP (k' := .i64) 4 l.length rfl (.inl rfl) (.inr ⟨rfl, rfl⟩) (hM.arg0 hp) U22 (by kernel_rfl) (by omega) (Nat.le_refl _) rfl ?_
 have r12 := RdL.partV (l := l) (hM.arg0 hp) (a := 4) (b := l.length) (by omega) (by omega)
 rw [cut_all] at r12
 refine Q.call (v := i64 (ht : Int)) rfl rfl (fun w' hw' => by rw [hht]; exact n35_ret _ _ w' (r12.ext hw') (by rw [List.length_drop]; omega)) $ Q.mv rfl rfl $ Q.idx1 (k := 8) rfl rfl ((hM.arg0 hp)) rfl (by omega) U22 (by kernel_rfl) rfl $ Q.load rfl U5 rfl (((hM.arg0 hp)).cellA rfl (by omega)) rfl ?_
 rw [u8c, at_get (l := l) (i := 8) (by omega), ← hd]
 refine Q.conv rfl U5 U3 (IntWalk.i64_in _ (by omega)) rfl $ Q.asg rfl rfl $ Q.asg rfl rfl $ Q.asg rfl rfl $ Q.nil $ fun w0 hx0 => ?_
 have hM := hM.ext hx0
 refine X.next $ C.seq $ C.chainE [(0, _), (6, _), (7, _), (8, _)] rfl [(37, .bool (decide (wd < 1 ∨ 4096 < wd ∨ ht < 1 ∨ 4096 < ht ∨ 4194304 < wd * ht)))] ?_ ?_
 ·
  refine C.region $ Km rfl $ Kp rfl $ Km rfl $ E.split 20 rfl (fun g20 => ?_) (fun g20 => ?_)
  ·
   try simp only [Ya, Yb, Yc, Yd, Ye, Yf] at g20
   refine Kq rfl $ Kq rfl $ Kr rfl $ Km rfl $ Kq rfl $ Kq rfl $ Kr rfl $ Km rfl $ Kq rfl $ Kq rfl $ Kr rfl $ Km rfl $ Kq rfl $ Kq rfl $ Kq rfl $ Kq rfl $ Kr rfl $ E.nil $ X.join0 (Sub.cons (look_eq rfl (congrArg Value.bool (by exact (decide_eq_true (p := wd < 1 ∨ 4096 < wd ∨ ht < 1 ∨ 4096 < ht ∨ 4194304 < wd * ht) (by omega)).symm))) $ Sub.nil _) rfl rfl
  try simp only [Ya, Yb, Yc, Yd, Ye, Yf] at g20
  refine Ko rfl $ Km rfl $ Ko rfl $ Kp rfl $ Kr rfl $ Km rfl $ E.split 24 rfl (fun g24 => ?_) (fun g24 => ?_)
  ·
   try simp only [Ya, Yb, Yc, Yd, Ye, Yf] at g24
   refine Kq rfl $ Kq rfl $ Kr rfl $ Km rfl $ Kq rfl $ Kq rfl $ Kr rfl $ Km rfl $ Kq rfl $ Kq rfl $ Kq rfl $ Kq rfl $ Kr rfl $ E.nil $ X.join0 (Sub.cons (look_eq rfl (congrArg Value.bool (by exact (decide_eq_true (p := wd < 1 ∨ 4096 < wd ∨ ht < 1 ∨ 4096 < ht ∨ 4194304 < wd * ht) (by omega)).symm))) $ Sub.nil _) rfl rfl
  try simp only [Ya, Yb, Yc, Yd, Ye, Yf] at g24
  refine Ko rfl $ Km rfl $ Ko rfl $ Kp rfl $ Kr rfl $ Km rfl $ E.split 28 rfl (fun g28 => ?_) (fun g28 => ?_)
  ·
   try simp only [Ya, Yb, Yc, Yd, Ye, Yf] at g28
   refine Kq rfl $ Kq rfl $ Kr rfl $ Km rfl $ Kq rfl $ Kq rfl $ Kq rfl $ Kq rfl $ Kr rfl $ E.nil $ X.join0 (Sub.cons (look_eq rfl (congrArg Value.bool (by exact (decide_eq_true (p := wd < 1 ∨ 4096 < wd ∨ ht < 1 ∨ 4096 < ht ∨ 4194304 < wd * ht) (by omega)).symm))) $ Sub.nil _) rfl rfl
  try simp only [Ya, Yb, Yc, Yd, Ye, Yf] at g28
  refine Ko rfl $ Km rfl $ Ko rfl $ Kp rfl $ Kr rfl $ Km rfl $ E.split 32 rfl (fun g32 => ?_) (fun g32 => ?_)
  ·
   try simp only [Ya, Yb, Yc, Yd, Ye, Yf] at g32
   refine Kq rfl $ Kq rfl $ Kq rfl $ Kq rfl $ Kr rfl $ E.nil $ X.join0 (Sub.cons (look_eq rfl (congrArg Value.bool (by exact (decide_eq_true (p := wd < 1 ∨ 4096 < wd ∨ ht < 1 ∨ 4096 < ht ∨ 4194304 < wd * ht) (by omega)).symm))) $ Sub.nil _) rfl rfl
  try simp only [Ya, Yb, Yc, Yd, Ye, Yf] at g32
  have hwh : wd * ht ≤ 4096 * 4096 := Nat.mul_le_mul (by omega) (by omega)
  refine Ko rfl $ Km rfl $ Ko rfl $ Km rfl $ Ko rfl $ E.mulN (a := wd) (b := ht) rfl rfl (by omega) rfl $ Ko rfl $ Kp rfl $ Kr rfl $ E.nil $ X.join0 (Sub.cons (look_eq rfl (congrArg Value.bool (by exact decide_eq_decide.2 ⟨fun h => by omega, fun h => by omega⟩))) $ Sub.nil _) rfl rfl
 refine C.cond' rfl (fun hC0 => ?_) (fun hC0 => ?_)
 ·
  refine Kb $ Kn rfl $ Kn rfl $ Kn rfl $ Kc rfl $ C.ret $ X.retT $ ret4 rfl rfl rfl rfl rfl ?_
  exact ⟨0, 0, 0, 23, rfl, hM.toExt, .inl ⟨by decide, fun z any => by rw [himg, if_pos hC0]⟩⟩
 refine Kk $ C.seq $ C.chainE [(0, _), (6, _), (7, _), (8, _)] rfl [(57, .bool (decide ((d ≠ 1 ∧ d ≠ 2 ∧ d ≠ 4 ∧ d ≠ 8) ∨ at_ l 9 ≠ 0)))] ?_ ?_
 ·
  refine C.region $ Km rfl $ Kp rfl $ Km rfl $ E.split 40 rfl (fun g40 => ?_) (fun g40 => ?_)
  ·
   try simp only [Ya, Yb, Yc, Yd, Ye, Yf] at g40
   refine Ko rfl $ Km rfl $ Ko rfl $ Kp rfl $ Kr rfl $ Km rfl $ E.split 44 rfl (fun g44 => ?_) (fun g44 => ?_)
   ·
    try simp only [Ya, Yb, Yc, Yd, Ye, Yf] at g44
    refine Ko rfl $ Km rfl $ Ko rfl $ Kp rfl $ Kr rfl $ Km rfl $ E.split 48 rfl (fun g48 => ?_) (fun g48 => ?_)
    ·
     try simp only [Ya, Yb, Yc, Yd, Ye, Yf] at g48
     refine Ko rfl $ Km rfl $ Ko rfl $ Kp rfl $ Kr rfl $ Km rfl $ E.split 52 rfl (fun g52 => ?_) (fun g52 => ?_)
     ·
      try simp only [Ya, Yb, Yc, Yd, Ye, Yf] at g52
      refine Kq rfl $ Kq rfl $ Kq rfl $ Kq rfl $ Kr rfl $ E.nil $ X.join0 (Sub.cons (look_eq rfl (congrArg Value.bool (by exact (decide_eq_true (p := (d ≠ 1 ∧ d ≠ 2 ∧ d ≠ 4 ∧ d ≠ 8) ∨ at_ l 9 ≠ 0) (by omega)).symm))) $ Sub.nil _) rfl rfl
     try simp only [Ya, Yb, Yc, Yd, Ye, Yf] at g52
     refine Ko rfl $ Km rfl $ Ko rfl $ E.idx1 (k := 9) rfl rfl ((hM.arg0 hp)) rfl (by omega) U22 (by kernel_rfl) rfl $ Ko rfl $ E.load rfl U5 rfl (((hM.arg0 hp)).cellA rfl (by omega)) rfl ?_
     rw [u8c, at_get (l := l) (i := 9) (by omega)]
     refine Ko rfl $ Kp rfl $ Kr rfl $ E.nil $ X.join0 (Sub.cons (look_eq rfl (congrArg Value.bool (by exact decide_eq_decide.2 ⟨fun h => by omega, fun h => by omega⟩))) $ Sub.nil _) rfl rfl
    try simp only [Ya, Yb, Yc, Yd, Ye, Yf] at g48
    refine Kq rfl $ Kq rfl $ Kr rfl $ Km rfl $ Ko rfl $ Km rfl $ Ko rfl $ E.idx1 (k := 9) rfl rfl ((hM.arg0 hp)) rfl (by omega) U22 (by kernel_rfl) rfl $ Ko rfl $ E.load rfl U5 rfl (((hM.arg0 hp)).cellA rfl (by omega)) rfl ?_
    rw [u8c, at_get (l := l) (i := 9) (by omega)]
    refine Ko rfl $ Kp rfl $ Kr rfl $ E.nil $ X.join0 (Sub.cons (look_eq rfl (congrArg Value.bool (by exact decide_eq_decide.2 ⟨fun h => by omega, fun h => by omega⟩))) $ Sub.nil _) rfl rfl
   try simp only [Ya, Yb, Yc, Yd, Ye, Yf] at g44
   refine Kq rfl $ Kq rfl $ Kr rfl $ Km rfl $ Kq rfl $ Kq rfl $ Kr rfl $ Km rfl $ Ko rfl $ Km rfl $ Ko rfl $ E.idx1 (k := 9) rfl rfl ((hM.arg0 hp)) rfl (by omega) U22 (by kernel_rfl) rfl $ Ko rfl $ E.load rfl U5 rfl (((hM.arg0 hp)).cellA rfl (by omega)) rfl ?_
   rw [u8c, at_get (l := l) (i := 9) (by omega)]
   refine Ko rfl $ Kp rfl $ Kr rfl $ E.nil $ X.join0 (Sub.cons (look_eq rfl (congrArg Value.bool (by exact decide_eq_decide.2 ⟨fun h => by omega, fun h => by omega⟩))) $ Sub.nil _) rfl rfl
  try simp only [Ya, Yb, Yc, Yd, Ye, Yf] at g40
  refine Kq rfl $ Kq rfl $ Kr rfl $ Km rfl $ Kq rfl $ Kq rfl $ Kr rfl $ Km rfl $ Kq rfl $ Kq rfl $ Kr rfl $ Km rfl $ Ko rfl $ Km rfl $ Ko rfl $ E.idx1 (k := 9) rfl rfl ((hM.arg0 hp)) rfl (by omega) U22 (by kernel_rfl) rfl $ Ko rfl $ E.load rfl U5 rfl (((hM.arg0 hp)).cellA rfl (by omega)) rfl ?_
  rw [u8c, at_get (l := l) (i := 9) (by omega)]
  refine Ko rfl $ Kp rfl $ Kr rfl $ E.nil $ X.join0 (Sub.cons (look_eq rfl (congrArg Value.bool (by exact decide_eq_decide.2 ⟨fun h => by omega, fun h => by omega⟩))) $ Sub.nil _) rfl rfl
 refine C.cond' rfl (fun hC1 => ?_) (fun hC1 => ?_)
 ·
  refine Kb $ Kn rfl $ Kn rfl $ Kn rfl $ Kc rfl $ C.ret $ X.retT $ ret4 rfl rfl rfl rfl rfl ?_
  exact ⟨0, 0, 0, 9, rfl, hM.toExt, .inl ⟨by decide, fun z any => by rw [himg, if_neg hC0, if_pos hC1]⟩⟩
 refine Kk $ C.seq $ C.chainE [(6, _), (7, _), (8, _)] rfl [(73, .bool (decide (at_ l 10 ≠ 0 ∨ at_ l 11 ≠ 0 ∨ at_ l 12 ≠ 0)))] ?_ ?_
 ·
  refine C.region $ Km rfl $ E.get (k := 10) rfl rfl (hM.arg0 hp) rfl (by omega) U22 (by kernel_rfl) U5 rfl rfl rfl ?_
  rw [u8c, at_get (l := l) (i := 10) (by omega)]
  refine Kp rfl $ Km rfl $ E.split 62 rfl (fun g62 => ?_) (fun g62 => ?_)
  ·
   try simp only [Ya, Yb, Yc, Yd, Ye, Yf] at g62
   refine Kq rfl $ Kq rfl $ Kq rfl $ Kq rfl $ Kr rfl $ Km rfl $ Kq rfl $ Kq rfl $ Kq rfl $ Kq rfl $ Kr rfl $ E.nil $ X.join0 (Sub.cons (look_eq rfl (congrArg Value.bool (by exact (decide_eq_true (p := at_ l 10 ≠ 0 ∨ at_ l 11 ≠ 0 ∨ at_ l 12 ≠ 0) (by omega)).symm))) $ Sub.nil _) rfl rfl
  try simp only [Ya, Yb, Yc, Yd, Ye, Yf] at g62
  refine Ko rfl $ Km rfl $ Ko rfl $ E.idx1 (k := 11) rfl rfl ((hM.arg0 hp)) rfl (by omega) U22 (by kernel_rfl) rfl $ Ko rfl $ E.load rfl U5 rfl (((hM.arg0 hp)).cellA rfl (by omega)) rfl ?_
  rw [u8c, at_get (l := l) (i := 11) (by omega)]
  refine Ko rfl $ Kp rfl $ Kr rfl $ Km rfl $ E.split 68 rfl (fun g68 => ?_) (fun g68 => ?_)
  ·
   try simp only [Ya, Yb, Yc, Yd, Ye, Yf] at g68
   refine Kq rfl $ Kq rfl $ Kq rfl $ Kq rfl $ Kr rfl $ E.nil $ X.join0 (Sub.cons (look_eq rfl (congrArg Value.bool (by exact (decide_eq_true (p := at_ l 10 ≠ 0 ∨ at_ l 11 ≠ 0 ∨ at_ l 12 ≠ 0) (by omega)).symm))) $ Sub.nil _) rfl rfl
  try simp only [Ya, Yb, Yc, Yd, Ye, Yf] at g68
  refine Ko rfl $ Km rfl $ Ko rfl $ E.idx1 (k := 12) rfl rfl ((hM.arg0 hp)) rfl (by omega) U22 (by kernel_rfl) rfl $ Ko rfl $ E.load rfl U5 rfl (((hM.arg0 hp)).cellA rfl (by omega)) rfl ?_
  rw [u8c, at_get (l := l) (i := 12) (by omega)]
  refine Ko rfl $ Kp rfl $ Kr rfl $ E.nil $ X.join0 (Sub.cons (look_eq rfl (congrArg Value.bool (by exact decide_eq_decide.2 ⟨fun h => by omega, fun h => by omega⟩))) $ Sub.nil _) rfl rfl
 refine C.cond' rfl (fun hC2 => ?_) (fun hC2 => ?_)
 ·
  refine Kb $ Kn rfl $ Kn rfl $ Kn rfl $ Kc rfl $ C.ret $ X.retT $ ret4 rfl rfl rfl rfl rfl ?_
  exact ⟨0, 0, 0, 37, rfl, hM.toExt, .inl ⟨by decide, fun z any => by rw [himg, if_neg hC0, if_neg hC1, if_pos hC2]⟩⟩
 refine Kk $ Kb $ Kf rfl $ Km rfl $ Kn rfl $ Kn rfl $ Kn rfl $ Kc rfl $ C.ret $ ret4 rfl rfl rfl rfl rfl ?_
 exact ⟨wd, ht, d, 0, rfl, hM.toExt, .inr ⟨rfl, wd, ht, d, rfl, rfl, rfl, hwd, hht, by first | exact hd | rfl, hC0, hC1, hC2⟩⟩
set_option maxHeartbeats 1000000 in
theorem values35_ret (p : Value) (row : List UInt8) (wd d : Nat) (w : World) (hp : RdL u8 w p row) (hd : d = 1 ∨ d = 2 ∨ d = 4 ∨ d = 8) (hw : wd ≤ 4096) (hl : (wd * d + 7) / 8 ≤ row.length) :
  Ret Tryz.prog 36 #[p, i64 wd, i64 d] w fun v w' => M w Nn w' [Rg.sl u8 5 v (vls row wd d)] := by
 have hM := M.start w
 refine enter Tryz.func36 rfl (by kernel_rfl) Tryz.ntmps36 rfl $ Kb $ Kd rfl $ Kd rfl $ Km rfl $ E.conv rfl U3 U64 (IntWalk.u64_in _ (by omega)) rfl $ E.shl (c := ((2 ^ d : Nat) : Int)) rfl rfl (by omega) (by rcases hd with rfl | rfl | rfl | rfl <;> decide) rfl ?_
 have h2d : 2 ≤ 2 ^ d ∧ 2 ^ d ≤ 256 := by rcases hd with rfl | rfl | rfl | rfl <;> decide
 obtain ⟨W, hW⟩ : ∃ W, W = wd * d := ⟨_, rfl⟩
 rw [← hW] at hl
 refine E.subN (a := 2 ^ d) (b := 1) rfl rfl (by omega) rfl $ Kc rfl $ C.seq $ Kb $ Kc rfl $ C.block $ ?_
 have hM := hM.nil u8 5
 try dsimp only [List.nil_append, List.cons_append] at hM
 refine C.loop2 [(0, _), (1, _), (2, _), (8, _)] rfl (fun (x : Nat) (vp : Value) => [(7, vp), (9, i64 x)]) (fun (x : Nat) (vp : Value) w' => M w (Nn) w' [Rg.sl u8 5 vp (tab x (vlk row d))] ∧ x ≤ wd) (fun (x : Nat) (vp : Value) => wd - x) 0 nilS ?_ ?_ ?_
 · exact Sub.cons rfl $ S1 rfl
 · exact ⟨hM, Nat.zero_le _⟩
 rintro x vp w0 ⟨hM, hx⟩
 refine C.seq $ Kb $ Kf rfl $ Kp rfl $ Ka $ C.cond' rfl (fun hC0 => ?_) (fun hC0 => ?_)
 ·
  have hx' : x < wd := by omega
  have hxd : x * d + d ≤ W ∧ x * d % 8 + d ≤ 8 ∧ x * d ≤ 32768 ∧ 1 ≤ d ∧ d ≤ 8 := by
   rw [hW]
   rcases hd with rfl | rfl | rfl | rfl <;> omega
  have hvk : vlk row d x = UInt8.ofNat (255 * (at_ row (x * d / 8) / 2 ^ (8 - d - x * d % 8) % 2 ^ d) / (2 ^ d - 1)) := rfl
  have hln : (tab x (vlk row d)).length = x := tab_len _ _
  refine Kk $ C.seq $ C.block $ Kb $ Kf rfl $ E.mulN (a := x) (b := d) rfl rfl (by omega) rfl ?_
  obtain ⟨a, ha⟩ : ∃ a, a = x * d := ⟨_, rfl⟩
  rw [← ha] at hxd hvk ⊢
  refine Kd rfl $ Kf rfl $ E.quo rfl rfl (by omega) (IntWalk.i64_quo _ _ (by omega)) rfl $ E.get (k := a / 8) rfl rfl (hM.arg0 hp) (by omega) (by omega) U22 (by kernel_rfl) U5 rfl rfl rfl ?_
  rw [u8c, at_get (show a / 8 < row.length by omega)]
  have hal := at_le row (a / 8)
  refine E.conv rfl U5 U3 (IntWalk.i64_in _ (by omega)) rfl $ Km rfl $ E.subN (a := 8) (b := d) rfl rfl (by omega) rfl $ Km rfl $ E.rem rfl rfl (by omega) (remN (a := a) (b := 8)) rfl $ E.subN (a := 8 - d) (b := a % 8) rfl rfl (by omega) rfl $ E.conv rfl U3 U64 (IntWalk.u64_in _ (by omega)) rfl $ E.shr rfl rfl (by omega) (shr_i64 (v := at_ row (a / 8)) (k := 8 - d - a % 8) (by omega)) rfl ?_
  obtain ⟨u, hu⟩ : ∃ u, u = at_ row (a / 8) / 2 ^ (8 - d - a % 8) := ⟨_, rfl⟩
  have hul : u ≤ 255 := by rw [hu]; exact Nat.le_trans (Nat.div_le_self _ _) hal
  rw [← hu] at hvk ⊢
  refine Km rfl $ E.binw rfl rfl rfl (congrArg _ (and_mask (v := u) (d := d) hul (by omega))) rfl ?_
  obtain ⟨z, hz⟩ : ∃ z, z = u % 2 ^ d := ⟨_, rfl⟩
  have hzl : z ≤ 255 := by rw [hz]; exact Nat.le_trans (Nat.mod_le _ _) hul
  rw [← hz] at hvk ⊢
  refine Kc rfl $ C.region $ Kf rfl $ E.mulN (a := 255) (b := z) rfl rfl (by omega) rfl $ Km rfl $ E.quo rfl rfl (by omega) (IntWalk.i64_quo _ _ (by omega)) rfl $ E.conv rfl U3 U5 (c := ((vlk row d x).toNat : Int)) (by rw [hvk, ← Int.natCast_ediv]; exact wrap8 _) rfl $ E.pushM 0 (vlk row d x) hM rfl rfl rfl U22 elem_Tuint8 rfl (by omega) (by omega) (by simp) rfl rfl ?_
  intro v46 u46 w1 hM
  try dsimp only [Za, Zb, Zc, Zd, repl] at hM
  refine Kn rfl $ E.nil $ X.outN $ X.next $ C.region $ Km rfl $ E.add rfl rfl (by omega) rfl $ Kn rfl $ E.nil $ ?_
  rw [← tab_succ] at hM
  refine X.again2 (x + 1) _ (Sub.cons rfl $ S1 rfl) rfl ⟨hM.pick [0] (by decide), by omega⟩ (by omega)
 obtain rfl : x = wd := by omega
 refine Kx $ Kb $ Km rfl $ Kc rfl $ C.ret $ ret1 rfl rfl ?_
 exact hM
end Go.Proofs.YtajklleiifhipaaGreatDoor
