/- finder: the reference's triples and sides. -/
import Derived.Test.YtbinlkobmlebpaaZ0
import Derived.Test.YtbinlkobmlebpaaZ16
set_option linter.unusedSimpArgs false
set_option linter.unusedVariables false
namespace Go.Proofs.Ytbinlkobmlebpaa
open Go.RowKit Sym
open Fi
theorem shl_i {k c : Nat} (hk : k ≤ 30) (e : 2 ^ k = c) : IntKind.i64.wrap (1 * 2 ^ min ((k : Int)).toNat IntKind.i64.bits) = (c : Int) := by
 have hb : IntKind.i64.bits = 64 := rfl
 have h1 : 2 ^ k ≤ 2 ^ 30 := Nat.pow_le_pow_right (by decide) hk
 rw [hb, Int.toNat_natCast, Nat.min_eq_left (by omega), Int.one_mul, show (2 : Int) ^ k = ((2 ^ k : Nat) : Int) by simp, e]
 exact IntWalk.i64_in _ (by omega)
theorem dt_sym (a b c d : Int) : dt (a - b) (c - d) (a - b) (c - d) = dt (b - a) (d - c) (b - a) (d - c) := by
 unfold dt
 rw [show a - b = -(b - a) by omega, show c - d = -(d - c) by omega, Int.neg_mul_neg, Int.neg_mul_neg]
theorem rright_ret (m : Mk) (w : World) :
  Ret Try.prog 31 #[mkv m] w fun v w' => v = .bool (decide (mok m)) ∧ Ext w w' := by
 have hM := M.start w
 refine enter Try.func31 rfl (by kernel_rfl) Try.ntmps31 rfl ?_
 refine C.seq <| C.region <| ?_
 refine E.boxM hM rfl rfl rfl ?_
 intro b1 w0 hM
 try dsimp only [Za, Zb, Zc, Zd, repl] at hM
 refine E.asg rfl rfl <| E.nil <| X.next <| ?_

 refine C.chainE [] rfl [(2, .bool (decide (mok m)))] ?_ ?_
 ·
  refine C.region <| ?_
  refine E.fld (o := 0) (sz := 0) rfl Try.underlying24 rfl rfl (by kernel_rfl) rfl ?_
  refine E.load rfl Try.underlying3 rfl (hM.bcell 0 rfl rfl) rfl ?_
  refine E.bin rfl rfl rfl rfl <| E.mv rfl rfl <| ?_
  refine E.split 6 rfl (fun g6 => ?_) (fun g6 => ?_)
  ·
   try simp only [Ya, Yb, Yc, Yd, Ye, Yf] at g6
   refine E.on rfl rfl (E.fld (o := 0) (sz := 0) rfl Try.underlying24 rfl rfl (by kernel_rfl) rfl ?_)
   refine E.on rfl rfl (E.load rfl Try.underlying3 rfl (hM.bcell 0 rfl rfl) rfl ?_)
   refine E.on rfl rfl (E.bin rfl rfl rfl rfl ?_)
   refine E.pick rfl rfl rfl <| E.mv rfl rfl <| ?_
   refine E.split 11 rfl (fun g11 => ?_) (fun g11 => ?_)
   ·
    try simp only [Ya, Yb, Yc, Yd, Ye, Yf] at g11
    refine E.on rfl rfl (E.fld (o := 1) (sz := 0) rfl Try.underlying24 rfl rfl (by kernel_rfl) rfl ?_)
    refine E.on rfl rfl (E.load rfl Try.underlying3 rfl (hM.bcell 0 rfl rfl) rfl ?_)
    refine E.on rfl rfl (E.bin rfl rfl rfl rfl ?_)
    refine E.pick rfl rfl rfl <| E.mv rfl rfl <| ?_
    refine E.split 16 rfl (fun g16 => ?_) (fun g16 => ?_)
    ·
     try simp only [Ya, Yb, Yc, Yd, Ye, Yf] at g16
     refine E.on rfl rfl (E.fld (o := 1) (sz := 0) rfl Try.underlying24 rfl rfl (by kernel_rfl) rfl ?_)
     refine E.on rfl rfl (E.load rfl Try.underlying3 rfl (hM.bcell 0 rfl rfl) rfl ?_)
     refine E.on rfl rfl (E.bin rfl rfl rfl rfl ?_)
     refine E.pick rfl rfl rfl <| E.mv rfl rfl <| ?_
     refine E.split 21 rfl (fun g21 => ?_) (fun g21 => ?_)
     ·
      try simp only [Ya, Yb, Yc, Yd, Ye, Yf] at g21
      refine E.on rfl rfl (E.fld (o := 2) (sz := 0) rfl Try.underlying24 rfl rfl (by kernel_rfl) rfl ?_)
      refine E.on rfl rfl (E.load rfl Try.underlying3 rfl (hM.bcell 0 rfl rfl) rfl ?_)
      refine E.on rfl rfl (E.bin rfl rfl rfl rfl ?_)
      refine E.pick rfl rfl rfl <| E.mv rfl rfl <| ?_
      refine E.split 26 rfl (fun g26 => ?_) (fun g26 => ?_)
      ·
       try simp only [Ya, Yb, Yc, Yd, Ye, Yf] at g26
       refine E.on rfl rfl (E.fld (o := 2) (sz := 0) rfl Try.underlying24 rfl rfl (by kernel_rfl) rfl ?_)
       refine E.on rfl rfl (E.load rfl Try.underlying3 rfl (hM.bcell 0 rfl rfl) rfl ?_)
       refine E.on rfl rfl (E.bin rfl rfl rfl rfl ?_)
       refine E.pick rfl rfl rfl <| E.asg rfl rfl <| E.nil <| X.join0 (Sub.cons (look_eq rfl (congrArg Value.bool (by unfold mok; first | exact (decide_eq_true (by omega)).symm | exact (decide_eq_false (by omega)).symm | exact decide_eq_decide.2 ⟨fun h => by omega, fun h => by omega⟩))) <| Sub.nil _) rfl rfl
      ·
       try simp only [Ya, Yb, Yc, Yd, Ye, Yf] at g26
       refine E.off rfl rfl rfl rfl <| E.off rfl rfl rfl rfl <| E.off rfl rfl rfl rfl <| E.pick rfl rfl rfl <| E.asg rfl rfl <| E.nil <| X.join0 (Sub.cons (look_eq rfl (congrArg Value.bool (by unfold mok; first | exact (decide_eq_true (by omega)).symm | exact (decide_eq_false (by omega)).symm | exact decide_eq_decide.2 ⟨fun h => by omega, fun h => by omega⟩))) <| Sub.nil _) rfl rfl
     ·
      try simp only [Ya, Yb, Yc, Yd, Ye, Yf] at g21
      refine E.off rfl rfl rfl rfl <| E.off rfl rfl rfl rfl <| E.off rfl rfl rfl rfl <| E.pick rfl rfl rfl <| E.mv rfl rfl <| E.off rfl rfl rfl rfl <| E.off rfl rfl rfl rfl <| E.off rfl rfl rfl rfl <| E.pick rfl rfl rfl <| E.asg rfl rfl <| E.nil <| X.join0 (Sub.cons (look_eq rfl (congrArg Value.bool (by unfold mok; first | exact (decide_eq_true (by omega)).symm | exact (decide_eq_false (by omega)).symm | exact decide_eq_decide.2 ⟨fun h => by omega, fun h => by omega⟩))) <| Sub.nil _) rfl rfl
    ·
     try simp only [Ya, Yb, Yc, Yd, Ye, Yf] at g16
     refine E.off rfl rfl rfl rfl <| E.off rfl rfl rfl rfl <| E.off rfl rfl rfl rfl <| E.pick rfl rfl rfl <| E.mv rfl rfl <| E.off rfl rfl rfl rfl <| E.off rfl rfl rfl rfl <| E.off rfl rfl rfl rfl <| E.pick rfl rfl rfl <| E.mv rfl rfl <| E.off rfl rfl rfl rfl <| E.off rfl rfl rfl rfl <| E.off rfl rfl rfl rfl <| E.pick rfl rfl rfl <| E.asg rfl rfl <| E.nil <| X.join0 (Sub.cons (look_eq rfl (congrArg Value.bool (by unfold mok; first | exact (decide_eq_true (by omega)).symm | exact (decide_eq_false (by omega)).symm | exact decide_eq_decide.2 ⟨fun h => by omega, fun h => by omega⟩))) <| Sub.nil _) rfl rfl
   ·
    try simp only [Ya, Yb, Yc, Yd, Ye, Yf] at g11
    refine E.off rfl rfl rfl rfl <| E.off rfl rfl rfl rfl <| E.off rfl rfl rfl rfl <| E.pick rfl rfl rfl <| E.mv rfl rfl <| E.off rfl rfl rfl rfl <| E.off rfl rfl rfl rfl <| E.off rfl rfl rfl rfl <| E.pick rfl rfl rfl <| E.mv rfl rfl <| E.off rfl rfl rfl rfl <| E.off rfl rfl rfl rfl <| E.off rfl rfl rfl rfl <| E.pick rfl rfl rfl <| E.mv rfl rfl <| E.off rfl rfl rfl rfl <| E.off rfl rfl rfl rfl <| E.off rfl rfl rfl rfl <| E.pick rfl rfl rfl <| E.asg rfl rfl <| E.nil <| X.join0 (Sub.cons (look_eq rfl (congrArg Value.bool (by unfold mok; first | exact (decide_eq_true (by omega)).symm | exact (decide_eq_false (by omega)).symm | exact decide_eq_decide.2 ⟨fun h => by omega, fun h => by omega⟩))) <| Sub.nil _) rfl rfl
  ·
   try simp only [Ya, Yb, Yc, Yd, Ye, Yf] at g6
   refine E.off rfl rfl rfl rfl <| E.off rfl rfl rfl rfl <| E.off rfl rfl rfl rfl <| E.pick rfl rfl rfl <| E.mv rfl rfl <| E.off rfl rfl rfl rfl <| E.off rfl rfl rfl rfl <| E.off rfl rfl rfl rfl <| E.pick rfl rfl rfl <| E.mv rfl rfl <| E.off rfl rfl rfl rfl <| E.off rfl rfl rfl rfl <| E.off rfl rfl rfl rfl <| E.pick rfl rfl rfl <| E.mv rfl rfl <| E.off rfl rfl rfl rfl <| E.off rfl rfl rfl rfl <| E.off rfl rfl rfl rfl <| E.pick rfl rfl rfl <| E.mv rfl rfl <| E.off rfl rfl rfl rfl <| E.off rfl rfl rfl rfl <| E.off rfl rfl rfl rfl <| E.pick rfl rfl rfl <| E.asg rfl rfl <| E.nil <| X.join0 (Sub.cons (look_eq rfl (congrArg Value.bool (by unfold mok; first | exact (decide_eq_true (by omega)).symm | exact (decide_eq_false (by omega)).symm | exact decide_eq_decide.2 ⟨fun h => by omega, fun h => by omega⟩))) <| Sub.nil _) rfl rfl
 refine C.ret <| ret1 rfl rfl ?_
 exact ⟨rfl, hM.toExt⟩
theorem rabs_ret (n : Int) (w : World) (hn : -9223372036854775807 ≤ n ∧ n ≤ 9223372036854775807) :
  Ret Try.prog 63 #[i64 n] w fun v w' => v = i64 (max n (-n)) ∧ Ext w w' := by
 have hM := M.start w
 refine enter Try.func63 rfl (by kernel_rfl) Try.ntmps63 rfl ?_
 refine C.seq <| C.region <| E.asg rfl rfl <| E.nil <| X.next <| C.seq <| C.region <| E.mv rfl rfl <| E.mv rfl rfl <| ?_
 refine E.neg rfl (IntWalk.i64_in _ (by omega)) rfl ?_
 rw [Int.zero_sub]
 refine E.max2 rfl rfl rfl <| E.asg rfl rfl <| E.nil <| X.next <| C.ret <| ret1 rfl rfl ?_
 exact ⟨rfl, hM.toExt⟩
set_option maxHeartbeats 2000000 in
theorem rfits_ret (c r d : Mk) (w : World) (hc : mok c) (hr : mok r) (hd : mok d) :
  Ret Try.prog 32 #[mkv c, mkv r, mkv d] w fun v w' => v = .bool (decide (tri c r d)) ∧ Ext w w' := by
 have hM := M.start w
 refine enter Try.func32 rfl (by kernel_rfl) Try.ntmps32 rfl ?_
 refine C.seq <| C.region <| ?_
 have hc' := mok_i hc
 have hr' := mok_i hr
 have hd' := mok_i hd
 have hss := mul_b (a := 100 * c.s) (b := c.s) (A := 5734400) (B := 57344) (by omega) (by omega)
 have q1 := dt_b (a := r.x - c.x) (b := r.y - c.y) (c := r.x - c.x) (d := r.y - c.y) (by omega) (by omega) (by omega) (by omega)
 have q2 := dt_b (a := d.x - c.x) (b := d.y - c.y) (c := d.x - c.x) (d := d.y - c.y) (by omega) (by omega) (by omega) (by omega)
 have q3 := dt_b (a := r.x - c.x) (b := r.y - c.y) (c := d.x - c.x) (d := d.y - c.y) (by omega) (by omega) (by omega) (by omega)
 have q4 := dt_b (a := r.x - c.x) (b := r.y - c.y) (c := d.y - c.y) (d := d.x - c.x) (by omega) (by omega) (by omega) (by omega)
 have s1 := dt_sq (a := r.x - c.x) (b := r.y - c.y)
 have s2 := dt_sq (a := d.x - c.x) (b := d.y - c.y)
 refine E.boxM hM rfl rfl rfl ?_
 intro b3 w0 hM
 try dsimp only [Za, Zb, Zc, Zd, repl] at hM
 refine E.boxM hM rfl rfl rfl ?_
 intro b4 w1 hM
 try dsimp only [Za, Zb, Zc, Zd, repl] at hM
 refine E.boxM hM rfl rfl rfl ?_
 intro b5 w2 hM
 try dsimp only [Za, Zb, Zc, Zd, repl] at hM
 refine E.asg rfl rfl <| E.nil <| X.next <| C.seq <| C.drawn (by kernel_rfl) (by kernel_rfl) <| ?_
 refine Q.fld (o := 0) (sz := 0) rfl Try.underlying24 rfl rfl (by kernel_rfl) rfl ?_
 refine Q.load rfl Try.underlying3 rfl (hM.bcell 1 rfl rfl) rfl ?_
 refine Q.fld (o := 0) (sz := 0) rfl Try.underlying24 rfl rfl (by kernel_rfl) rfl ?_
 refine Q.load rfl Try.underlying3 rfl (hM.bcell 0 rfl rfl) rfl ?_
 refine Q.sub' rfl rfl (by omega) rfl ?_
 refine Q.fld (o := 1) (sz := 0) rfl Try.underlying24 rfl rfl (by kernel_rfl) rfl ?_
 refine Q.load rfl Try.underlying3 rfl (hM.bcell 1 rfl rfl) rfl ?_
 refine Q.fld (o := 1) (sz := 0) rfl Try.underlying24 rfl rfl (by kernel_rfl) rfl ?_
 refine Q.load rfl Try.underlying3 rfl (hM.bcell 0 rfl rfl) rfl ?_
 refine Q.sub' rfl rfl (by omega) rfl ?_
 refine Q.fld (o := 0) (sz := 0) rfl Try.underlying24 rfl rfl (by kernel_rfl) rfl ?_
 refine Q.load rfl Try.underlying3 rfl (hM.bcell 2 rfl rfl) rfl ?_
 refine Q.fld (o := 0) (sz := 0) rfl Try.underlying24 rfl rfl (by kernel_rfl) rfl ?_
 refine Q.load rfl Try.underlying3 rfl (hM.bcell 0 rfl rfl) rfl ?_
 refine Q.sub' rfl rfl (by omega) rfl ?_
 refine Q.fld (o := 1) (sz := 0) rfl Try.underlying24 rfl rfl (by kernel_rfl) rfl ?_
 refine Q.load rfl Try.underlying3 rfl (hM.bcell 2 rfl rfl) rfl ?_
 refine Q.fld (o := 1) (sz := 0) rfl Try.underlying24 rfl rfl (by kernel_rfl) rfl ?_
 refine Q.load rfl Try.underlying3 rfl (hM.bcell 0 rfl rfl) rfl ?_
 refine Q.sub' rfl rfl (by omega) rfl ?_
 refine Q.asg rfl rfl <| Q.asg rfl rfl <| Q.asg rfl rfl <| Q.asg rfl rfl <| Q.nil <| fun w3 hx3 => ?_
 have hM := hM.ext hx3
 refine X.next <| C.seq <| C.region <| E.mv rfl rfl <| E.mv rfl rfl <| ?_
 refine E.mul rfl rfl (by omega) rfl ?_
 refine E.mv rfl rfl <| E.mv rfl rfl <| ?_
 refine E.mul rfl rfl (by omega) rfl ?_
 refine E.add rfl rfl (by omega) rfl ?_
 refine E.mv rfl rfl <| E.mv rfl rfl <| ?_
 refine E.mul rfl rfl (by omega) rfl ?_
 refine E.mv rfl rfl <| E.mv rfl rfl <| ?_
 refine E.mul rfl rfl (by omega) rfl ?_
 refine E.add rfl rfl (by omega) rfl ?_
 obtain ⟨uu, huu⟩ : ∃ z, z = (dt (r.x - c.x) (r.y - c.y) (r.x - c.x) (r.y - c.y)) := ⟨_, rfl⟩
 obtain ⟨vv, hvv⟩ : ∃ z, z = (dt (d.x - c.x) (d.y - c.y) (d.x - c.x) (d.y - c.y)) := ⟨_, rfl⟩
 obtain ⟨uv, huv⟩ : ∃ z, z = (dt (r.x - c.x) (r.y - c.y) (d.x - c.x) (d.y - c.y)) := ⟨_, rfl⟩
 have htri : tri c r d ↔ (4 * max (max c.s r.s) d.s ≤ 5 * min (min c.s r.s) d.s ∧ 16 * max uu vv ≤ 25 * min uu vv ∧ (100 * c.s * c.s ≤ min uu vv ∧ 8 * max uv (-uv) ≤ uu + vv ∧ 0 < (r.x - c.x) * (d.y - c.y) - (r.y - c.y) * (d.x - c.x))) := by rw [huu, hvv, huv]; exact Iff.rfl
 have huu' : (r.x - c.x) * (r.x - c.x) + (r.y - c.y) * (r.y - c.y) = uu := huu.symm
 have hvv' : (d.x - c.x) * (d.x - c.x) + (d.y - c.y) * (d.y - c.y) = vv := hvv.symm
 have huv' : (r.x - c.x) * (d.x - c.x) + (r.y - c.y) * (d.y - c.y) = uv := huv.symm
 rw [huu', hvv']
 rw [← huu] at q1 s1
 rw [← hvv] at q2 s2
 rw [← huv] at q3
 refine E.asg rfl rfl <| E.asg rfl rfl <| E.nil <| X.next <| C.seq <| C.drawn (by kernel_rfl) (by kernel_rfl) <| ?_
 refine Q.fld (o := 2) (sz := 0) rfl Try.underlying24 rfl rfl (by kernel_rfl) rfl ?_
 refine Q.load rfl Try.underlying3 rfl (hM.bcell 0 rfl rfl) rfl ?_
 refine Q.fld (o := 2) (sz := 0) rfl Try.underlying24 rfl rfl (by kernel_rfl) rfl ?_
 refine Q.load rfl Try.underlying3 rfl (hM.bcell 1 rfl rfl) rfl ?_
 refine Q.fld (o := 2) (sz := 0) rfl Try.underlying24 rfl rfl (by kernel_rfl) rfl ?_
 refine Q.load rfl Try.underlying3 rfl (hM.bcell 2 rfl rfl) rfl ?_
 refine Q.min2 rfl rfl rfl <| Q.min2 rfl rfl rfl <| ?_
 refine Q.fld (o := 2) (sz := 0) rfl Try.underlying24 rfl rfl (by kernel_rfl) rfl ?_
 refine Q.load rfl Try.underlying3 rfl (hM.bcell 0 rfl rfl) rfl ?_
 refine Q.fld (o := 2) (sz := 0) rfl Try.underlying24 rfl rfl (by kernel_rfl) rfl ?_
 refine Q.load rfl Try.underlying3 rfl (hM.bcell 1 rfl rfl) rfl ?_
 refine Q.fld (o := 2) (sz := 0) rfl Try.underlying24 rfl rfl (by kernel_rfl) rfl ?_
 refine Q.load rfl Try.underlying3 rfl (hM.bcell 2 rfl rfl) rfl ?_
 refine Q.max2 rfl rfl rfl <| Q.max2 rfl rfl rfl <| Q.asg rfl rfl <| Q.asg rfl rfl <| Q.nil <| fun w4 hx4 => ?_
 have hM := hM.ext hx4
 refine X.next <| ?_

 refine C.cut0 [] rfl [(6, .bool (decide (tri c r d)))] (fun w' => M w (Nn) w' [Rg.blk b3 24 (Fi.mkc c), Rg.blk b4 24 (Fi.mkc r), Rg.blk b5 24 (Fi.mkc d)]) ?_ ?_
 ·
  refine C.region <| E.mv rfl rfl <| ?_
  refine E.mul rfl rfl (by omega) rfl ?_
  refine E.mv rfl rfl <| ?_
  refine E.mul rfl rfl (by omega) rfl ?_
  refine E.bin rfl rfl rfl rfl <| E.mv rfl rfl <| ?_
  refine E.split 70 rfl (fun g70 => ?_) (fun g70 => ?_)
  ·
   try simp only [Ya, Yb, Yc, Yd, Ye, Yf] at g70
   refine E.on rfl rfl (E.mv rfl rfl ?_)
   refine E.on rfl rfl (E.mv rfl rfl ?_)
   refine E.on rfl rfl (E.max2 rfl rfl rfl ?_)
   refine E.on rfl rfl (E.mul rfl rfl (by omega) rfl ?_)
   refine E.on rfl rfl (E.mv rfl rfl ?_)
   refine E.on rfl rfl (E.mv rfl rfl ?_)
   refine E.on rfl rfl (E.min2 rfl rfl rfl ?_)
   refine E.on rfl rfl (E.mul rfl rfl (by omega) rfl ?_)
   refine E.on rfl rfl (E.bin rfl rfl rfl rfl ?_)
   refine E.pick rfl rfl rfl <| E.mv rfl rfl <| ?_
   refine E.split 81 rfl (fun g81 => ?_) (fun g81 => ?_)
   ·
    try simp only [Ya, Yb, Yc, Yd, Ye, Yf] at g81
    refine E.on rfl rfl (E.mv rfl rfl ?_)
    refine E.on rfl rfl (E.mv rfl rfl ?_)
    refine E.on rfl rfl (E.min2 rfl rfl rfl ?_)
    refine E.on rfl rfl (E.fld (o := 2) (sz := 0) rfl Try.underlying24 rfl rfl (by kernel_rfl) rfl ?_)
    refine E.on rfl rfl (E.load rfl Try.underlying3 rfl (hM.bcell 0 rfl rfl) rfl ?_)
    refine E.on rfl rfl (E.mul rfl rfl (by omega) rfl ?_)
    refine E.on rfl rfl (E.fld (o := 2) (sz := 0) rfl Try.underlying24 rfl rfl (by kernel_rfl) rfl ?_)
    refine E.on rfl rfl (E.load rfl Try.underlying3 rfl (hM.bcell 0 rfl rfl) rfl ?_)
    refine E.on rfl rfl (E.mul rfl rfl (by omega) rfl ?_)
    refine E.on rfl rfl (E.bin rfl rfl rfl rfl ?_)
    refine E.pick rfl rfl rfl <| E.mv rfl rfl <| ?_
    refine E.split 93 rfl (fun g93 => ?_) (fun g93 => ?_)
    ·
     try simp only [Ya, Yb, Yc, Yd, Ye, Yf] at g93
     refine E.on rfl rfl (E.mv rfl rfl ?_)
     refine E.on rfl rfl (E.mv rfl rfl ?_)
     refine E.on rfl rfl (E.mul rfl rfl (by omega) rfl ?_)
     refine E.on rfl rfl (E.mv rfl rfl ?_)
     refine E.on rfl rfl (E.mv rfl rfl ?_)
     refine E.on rfl rfl (E.mul rfl rfl (by omega) rfl ?_)
     refine E.on rfl rfl (E.add rfl rfl (by omega) rfl ?_)
     rw [huv']
     refine E.on rfl rfl (E.call rfl rfl (rabs_ret uv _ (by omega)) ?_)
     rintro _ w5 ⟨rfl, x5⟩
     have hM := hM.ext x5
     try dsimp only [Za, Zb, Zc, Zd, repl] at hM
     refine E.on rfl rfl (E.mul rfl rfl (by omega) rfl ?_)
     refine E.on rfl rfl (E.mv rfl rfl ?_)
     refine E.on rfl rfl (E.mv rfl rfl ?_)
     refine E.on rfl rfl (E.add rfl rfl (by omega) rfl ?_)
     refine E.on rfl rfl (E.bin rfl rfl rfl rfl ?_)
     refine E.pick rfl rfl rfl <| E.mv rfl rfl <| ?_
     refine E.split 108 rfl (fun g108 => ?_) (fun g108 => ?_)
     ·
      try simp only [Ya, Yb, Yc, Yd, Ye, Yf] at g108
      refine E.on rfl rfl (E.mv rfl rfl ?_)
      refine E.on rfl rfl (E.mv rfl rfl ?_)
      refine E.on rfl rfl (E.mul rfl rfl (by omega) rfl ?_)
      refine E.on rfl rfl (E.mv rfl rfl ?_)
      refine E.on rfl rfl (E.mv rfl rfl ?_)
      refine E.on rfl rfl (E.mul rfl rfl (by omega) rfl ?_)
      refine E.on rfl rfl (E.sub' rfl rfl (by omega) rfl ?_)
      refine E.on rfl rfl (E.bin rfl rfl rfl rfl ?_)

      refine E.pick rfl rfl rfl <| E.asg rfl rfl <| E.nil <| X.join0  (Sub.cons (look_eq rfl (congrArg Value.bool (decide_eq_decide.2 ⟨fun h => htri.2 ⟨by omega, by omega, by omega, by omega, by omega⟩, fun h => by have := htri.1 h; omega⟩))) <| Sub.nil _) rfl hM
     ·
      try simp only [Ya, Yb, Yc, Yd, Ye, Yf] at g108

      refine E.off rfl rfl rfl rfl <| E.off rfl rfl rfl rfl <| E.off rfl rfl rfl rfl <| E.off rfl rfl rfl rfl <| E.off rfl rfl rfl rfl <| E.off rfl rfl rfl rfl <| E.off rfl rfl rfl rfl <| E.off rfl rfl rfl rfl <| E.pick rfl rfl rfl <| E.asg rfl rfl <| E.nil <| X.join0  (Sub.cons (look_eq rfl (congrArg Value.bool (decide_eq_false (fun h => by have := htri.1 h; omega)).symm)) <| Sub.nil _) rfl hM
    ·
     try simp only [Ya, Yb, Yc, Yd, Ye, Yf] at g93

     refine E.off rfl rfl rfl rfl <| E.off rfl rfl rfl rfl <| E.off rfl rfl rfl rfl <| E.off rfl rfl rfl rfl <| E.off rfl rfl rfl rfl <| E.off rfl rfl rfl rfl <| E.off rfl rfl rfl rfl <| E.off rfl rfl rfl rfl <| E.off rfl rfl rfl rfl <| E.off rfl rfl rfl rfl <| E.off rfl rfl rfl rfl <| E.off rfl rfl rfl rfl <| E.off rfl rfl rfl rfl <| E.pick rfl rfl rfl <| E.mv rfl rfl <| E.off rfl rfl rfl rfl <| E.off rfl rfl rfl rfl <| E.off rfl rfl rfl rfl <| E.off rfl rfl rfl rfl <| E.off rfl rfl rfl rfl <| E.off rfl rfl rfl rfl <| E.off rfl rfl rfl rfl <| E.off rfl rfl rfl rfl <| E.pick rfl rfl rfl <| E.asg rfl rfl <| E.nil <| X.join0  (Sub.cons (look_eq rfl (congrArg Value.bool (decide_eq_false (fun h => by have := htri.1 h; omega)).symm)) <| Sub.nil _) rfl hM
   ·
    try simp only [Ya, Yb, Yc, Yd, Ye, Yf] at g81

    refine E.off rfl rfl rfl rfl <| E.off rfl rfl rfl rfl <| E.off rfl rfl rfl rfl <| E.off rfl rfl rfl rfl <| E.off rfl rfl rfl rfl <| E.off rfl rfl rfl rfl <| E.off rfl rfl rfl rfl <| E.off rfl rfl rfl rfl <| E.off rfl rfl rfl rfl <| E.off rfl rfl rfl rfl <| E.pick rfl rfl rfl <| E.mv rfl rfl <| E.off rfl rfl rfl rfl <| E.off rfl rfl rfl rfl <| E.off rfl rfl rfl rfl <| E.off rfl rfl rfl rfl <| E.off rfl rfl rfl rfl <| E.off rfl rfl rfl rfl <| E.off rfl rfl rfl rfl <| E.off rfl rfl rfl rfl <| E.off rfl rfl rfl rfl <| E.off rfl rfl rfl rfl <| E.off rfl rfl rfl rfl <| E.off rfl rfl rfl rfl <| E.off rfl rfl rfl rfl <| E.pick rfl rfl rfl <| E.mv rfl rfl <| E.off rfl rfl rfl rfl <| E.off rfl rfl rfl rfl <| E.off rfl rfl rfl rfl <| E.off rfl rfl rfl rfl <| E.off rfl rfl rfl rfl <| E.off rfl rfl rfl rfl <| E.off rfl rfl rfl rfl <| E.off rfl rfl rfl rfl <| E.pick rfl rfl rfl <| E.asg rfl rfl <| E.nil <| X.join0  (Sub.cons (look_eq rfl (congrArg Value.bool (decide_eq_false (fun h => by have := htri.1 h; omega)).symm)) <| Sub.nil _) rfl hM
  ·
   try simp only [Ya, Yb, Yc, Yd, Ye, Yf] at g70

   refine E.off rfl rfl rfl rfl <| E.off rfl rfl rfl rfl <| E.off rfl rfl rfl rfl <| E.off rfl rfl rfl rfl <| E.off rfl rfl rfl rfl <| E.off rfl rfl rfl rfl <| E.off rfl rfl rfl rfl <| E.off rfl rfl rfl rfl <| E.off rfl rfl rfl rfl <| E.pick rfl rfl rfl <| E.mv rfl rfl <| E.off rfl rfl rfl rfl <| E.off rfl rfl rfl rfl <| E.off rfl rfl rfl rfl <| E.off rfl rfl rfl rfl <| E.off rfl rfl rfl rfl <| E.off rfl rfl rfl rfl <| E.off rfl rfl rfl rfl <| E.off rfl rfl rfl rfl <| E.off rfl rfl rfl rfl <| E.off rfl rfl rfl rfl <| E.pick rfl rfl rfl <| E.mv rfl rfl <| E.off rfl rfl rfl rfl <| E.off rfl rfl rfl rfl <| E.off rfl rfl rfl rfl <| E.off rfl rfl rfl rfl <| E.off rfl rfl rfl rfl <| E.off rfl rfl rfl rfl <| E.off rfl rfl rfl rfl <| E.off rfl rfl rfl rfl <| E.off rfl rfl rfl rfl <| E.off rfl rfl rfl rfl <| E.off rfl rfl rfl rfl <| E.off rfl rfl rfl rfl <| E.off rfl rfl rfl rfl <| E.pick rfl rfl rfl <| E.mv rfl rfl <| E.off rfl rfl rfl rfl <| E.off rfl rfl rfl rfl <| E.off rfl rfl rfl rfl <| E.off rfl rfl rfl rfl <| E.off rfl rfl rfl rfl <| E.off rfl rfl rfl rfl <| E.off rfl rfl rfl rfl <| E.off rfl rfl rfl rfl <| E.pick rfl rfl rfl <| E.asg rfl rfl <| E.nil <| X.join0  (Sub.cons (look_eq rfl (congrArg Value.bool (decide_eq_false (fun h => by have := htri.1 h; omega)).symm)) <| Sub.nil _) rfl hM
 rintro  w6 hM
 refine C.ret <| ret1 rfl rfl ?_
 exact ⟨rfl, hM.toExt⟩
set_option maxHeartbeats 1000000 in
theorem rdist_ret (a b : Mk) (w : World) (ha : mok a) (hb : mok b) :
  Ret Try.prog 36 #[mkv a, mkv b] w fun v w' => ∃ r : Int, v = i64 r ∧ isR (dt (a.x - b.x) (a.y - b.y) (a.x - b.x) (a.y - b.y)) r ∧ Ext w w' := by
 have hM := M.start w
 refine enter Try.func36 rfl (by kernel_rfl) Try.ntmps36 rfl ?_
 refine C.seq <| C.region <| ?_
 have ha' := mok_i ha
 have hb' := mok_i hb
 have q1 := dt_b (a := a.x - b.x) (b := a.y - b.y) (c := a.x - b.x) (d := a.y - b.y) (by omega) (by omega) (by omega) (by omega)
 have s1 := dt_sq (a := a.x - b.x) (b := a.y - b.y)
 refine E.boxM hM rfl rfl rfl ?_
 intro b2 w0 hM
 try dsimp only [Za, Zb, Zc, Zd, repl] at hM
 refine E.boxM hM rfl rfl rfl ?_
 intro b3 w1 hM
 try dsimp only [Za, Zb, Zc, Zd, repl] at hM
 refine E.asg rfl rfl <| E.nil <| X.next <| C.seq <| C.region <| ?_
 refine E.fld (o := 0) (sz := 0) rfl Try.underlying24 rfl rfl (by kernel_rfl) rfl ?_
 refine E.load rfl Try.underlying3 rfl (hM.bcell 0 rfl rfl) rfl ?_
 refine E.fld (o := 0) (sz := 0) rfl Try.underlying24 rfl rfl (by kernel_rfl) rfl ?_
 refine E.load rfl Try.underlying3 rfl (hM.bcell 1 rfl rfl) rfl ?_
 refine E.sub' rfl rfl (by omega) rfl ?_
 refine E.fld (o := 0) (sz := 0) rfl Try.underlying24 rfl rfl (by kernel_rfl) rfl ?_
 refine E.load rfl Try.underlying3 rfl (hM.bcell 0 rfl rfl) rfl ?_
 refine E.fld (o := 0) (sz := 0) rfl Try.underlying24 rfl rfl (by kernel_rfl) rfl ?_
 refine E.load rfl Try.underlying3 rfl (hM.bcell 1 rfl rfl) rfl ?_
 refine E.sub' rfl rfl (by omega) rfl ?_
 refine E.mul rfl rfl (by omega) rfl ?_
 refine E.fld (o := 1) (sz := 0) rfl Try.underlying24 rfl rfl (by kernel_rfl) rfl ?_
 refine E.load rfl Try.underlying3 rfl (hM.bcell 0 rfl rfl) rfl ?_
 refine E.fld (o := 1) (sz := 0) rfl Try.underlying24 rfl rfl (by kernel_rfl) rfl ?_
 refine E.load rfl Try.underlying3 rfl (hM.bcell 1 rfl rfl) rfl ?_
 refine E.sub' rfl rfl (by omega) rfl ?_
 refine E.fld (o := 1) (sz := 0) rfl Try.underlying24 rfl rfl (by kernel_rfl) rfl ?_
 refine E.load rfl Try.underlying3 rfl (hM.bcell 0 rfl rfl) rfl ?_
 refine E.fld (o := 1) (sz := 0) rfl Try.underlying24 rfl rfl (by kernel_rfl) rfl ?_
 refine E.load rfl Try.underlying3 rfl (hM.bcell 1 rfl rfl) rfl ?_
 refine E.sub' rfl rfl (by omega) rfl ?_
 refine E.mul rfl rfl (by omega) rfl ?_
 refine E.add rfl rfl (by omega) rfl ?_
 obtain ⟨n, hn⟩ : ∃ z, z = dt (a.x - b.x) (a.y - b.y) (a.x - b.x) (a.y - b.y) := ⟨_, rfl⟩
 rw [show (a.x - b.x) * (a.x - b.x) + (a.y - b.y) * (a.y - b.y) = n from hn.symm]
 rw [← hn] at q1 s1 ⊢
 have hM := hM.pick [] (by decide)
 refine E.asg rfl rfl <| E.nil <| X.next <| C.seq <| C.region <| E.asg rfl rfl <| E.nil <| X.next <| C.seq <| C.seq <| C.region <| E.asg rfl rfl <| E.nil <| X.next <| C.block <| ?_

 refine C.loop2 [(5, _)] rfl (fun (k : Nat) (d : Int) => [(6, i64 d), (7, i64 ((k : Int) - 1))]) (fun (k : Nat) (d : Int) w' => M w (Nn) w' [] ∧ k ≤ 18 ∧ 0 ≤ d ∧ d + ((2 ^ k : Nat) : Int) ≤ 262144 ∧ d * d ≤ n ∧ n < (d + ((2 ^ k : Nat) : Int)) * (d + ((2 ^ k : Nat) : Int))) (fun (k : Nat) (d : Int) => k) 18 0 ?_ ?_ ?_
 · exact Sub.cons rfl <| Sub.cons rfl <| Sub.nil _
 · exact ⟨hM, by decide, by decide, by decide, by omega, by show n < 68719476736; omega⟩
 rintro k d w2 ⟨hM, hk, hd0, hd1, hd2, hd3⟩
 refine C.seq <| C.seq <| C.region <| E.mv rfl rfl <| E.bin rfl rfl rfl rfl <| E.nil <| X.next <| ?_
 refine C.cond' rfl (fun hC0 => ?_) (fun hC0 => ?_)
 ·
  obtain ⟨j, rfl⟩ : ∃ j, k = j + 1 := ⟨k - 1, by omega⟩
  obtain ⟨P, hP⟩ : ∃ P : Nat, 2 ^ j = P := ⟨_, rfl⟩
  have hP1 : 1 ≤ P := by rw [← hP]; exact Nat.one_le_two_pow
  rw [Nat.pow_succ, hP] at hd1 hd3
  have hmm := mul_b (a := d + P) (b := d + P) (A := 262144) (B := 262144) (by omega) (by omega)
  refine C.skip <| X.next <| ?_

  refine C.cut1 [(5, _), (7, _)] rfl (fun (d2 : Int) => [(6, i64 d2)]) (fun (d2 : Int) w' => M w (Nn) w' [] ∧ 0 ≤ d2 ∧ d2 + P ≤ 262144 ∧ d2 * d2 ≤ n ∧ n < (d2 + P) * (d2 + P)) ?_ ?_
  ·
   refine C.block <| C.seq <| C.region <| E.mv rfl rfl <| E.mv rfl rfl <| ?_
   refine E.conv (c := (j : Int)) rfl Try.underlying3 Try.underlying100 ((IntWalk.u64_in _ (by omega)).trans (by omega)) rfl ?_
   refine E.shl (c := (P : Int)) rfl rfl (by omega) (shl_i (k := j) (by omega) hP) rfl ?_
   refine E.add rfl rfl (by omega) rfl ?_
   refine E.mv rfl rfl <| E.mv rfl rfl <| ?_
   refine E.conv (c := (j : Int)) rfl Try.underlying3 Try.underlying100 ((IntWalk.u64_in _ (by omega)).trans (by omega)) rfl ?_
   refine E.shl (c := (P : Int)) rfl rfl (by omega) (shl_i (k := j) (by omega) hP) rfl ?_
   refine E.add rfl rfl (by omega) rfl ?_
   refine E.mul rfl rfl (by omega) rfl ?_
   refine E.mv rfl rfl <| E.bin rfl rfl rfl rfl <| E.nil <| X.next <| ?_
   refine C.cond' rfl (fun hC1 => ?_) (fun hC1 => ?_)
   ·
    refine C.region <| E.mv rfl rfl <| E.mv rfl rfl <| ?_
    refine E.conv (c := (j : Int)) rfl Try.underlying3 Try.underlying100 ((IntWalk.u64_in _ (by omega)).trans (by omega)) rfl ?_
    refine E.shl (c := (P : Int)) rfl rfl (by omega) (shl_i (k := j) (by omega) hP) rfl ?_
    refine E.add rfl rfl (by omega) rfl ?_

    refine E.asg rfl rfl <| E.nil <| X.outN <| X.join1 (d + P) (Sub.cons rfl <| Sub.nil _) rfl ⟨hM, by omega, by omega, hC1, by rw [show d + P + P = d + ((P * 2 : Nat) : Int) by omega]; exact hd3⟩
   ·

    refine C.skip <| X.outN <| X.join1 d (Sub.cons rfl <| Sub.nil _) rfl ⟨hM, hd0, by omega, hd2, by omega⟩
  rintro d2 w3 ⟨hM, hd0, hd1, hd2, hd3⟩
  refine C.region <| E.mv rfl rfl <| ?_
  refine E.sub' rfl rfl (by omega) rfl ?_

  refine E.asg rfl rfl <| E.nil <| X.again2 j d2 (Sub.cons rfl <| Sub.cons (look_eq rfl (congrArg i64 (by omega))) <| Sub.nil _) rfl ⟨hM, by omega, hd0, by rw [hP]; exact hd1, hd2, by rw [hP]; exact hd3⟩ (by omega)
 ·
  obtain rfl : k = 0 := by omega
  refine C.exit <| X.exitT <| X.exitT <| X.outE <| X.next <| C.seq <| C.region <| E.mv rfl rfl <| E.asg rfl rfl <| E.nil <| X.next <| C.ret <| ret1 rfl rfl ?_
  exact ⟨d, rfl, ⟨hd0, hd2, hd3⟩, hM.toExt⟩
theorem rdist_fn (a b : Mk) (ha : mok a) (hb : mok b) : ∃ r : Int, isR (dt (b.x - a.x) (b.y - a.y) (b.x - a.x) (b.y - a.y)) r ∧ ∀ w : World, Ret Try.prog 36 #[mkv a, mkv b] w fun v w' => v = i64 r ∧ Ext w w' := by
 have ha' := mok_i ha
 have hb' := mok_i hb
 have q1 := dt_b (a := b.x - a.x) (b := b.y - a.y) (c := b.x - a.x) (d := b.y - a.y) (by omega) (by omega) (by omega) (by omega)
 obtain ⟨r, hr, _⟩ := root_fn (dt (b.x - a.x) (b.y - a.y) (b.x - a.x) (b.y - a.y)) dt_sq (by omega)
 exact ⟨r, hr, fun w => (rdist_ret a b w ha hb).mono fun v w' ⟨q, hv, hq, hx⟩ => by
  rw [dt_sym] at hq
  exact ⟨by rw [hv, isR_one hq hr], hx⟩⟩
set_option maxHeartbeats 1000000 in
theorem rDimension_ret (c r d : Mk) (w : World) :
  Ret Try.prog 12 #[mkv c, mkv r, mkv d] w fun v w' => dimV c r d v ∧ Ext w w' := by
 have hM := M.start w
 refine enter Try.func12 rfl (by kernel_rfl) Try.ntmps12 rfl ?_
 refine C.seq <| C.region <| ?_
 refine E.boxM hM rfl rfl rfl ?_
 intro b3 w0 hM
 try dsimp only [Za, Zb, Zc, Zd, repl] at hM
 refine E.boxM hM rfl rfl rfl ?_
 intro b4 w1 hM
 try dsimp only [Za, Zb, Zc, Zd, repl] at hM
 refine E.boxM hM rfl rfl rfl ?_
 intro b5 w2 hM
 try dsimp only [Za, Zb, Zc, Zd, repl] at hM
 refine E.asg rfl rfl <| E.asg rfl rfl <| E.nil <| X.next <| C.seq <| ?_

 refine C.cut0 [(3, _), (4, _), (5, _)] rfl [(22, .bool (decide (¬ (mok c ∧ mok r ∧ mok d))))] (fun w' => M w (Nn) w' [Rg.blk b3 24 (Fi.mkc c), Rg.blk b4 24 (Fi.mkc r), Rg.blk b5 24 (Fi.mkc d)]) ?_ ?_
 ·
  refine C.region <| ?_
  refine E.loadA (cs := mkc c) rfl Try.underlying24 rfl (by kernel_rfl) (hM.bat 0 rfl) rfl ?_
  refine E.call rfl rfl (rright_ret c _) ?_
  rintro _ w3 ⟨rfl, x3⟩
  have hM := hM.ext x3
  try dsimp only [Za, Zb, Zc, Zd, repl] at hM
  refine E.not rfl rfl <| E.mv rfl rfl <| ?_
  refine E.split 13 rfl (fun g13 => ?_) (fun g13 => ?_)
  ·
   try simp only [Ya, Yb, Yc, Yd, Ye, Yf] at g13

   refine E.off rfl rfl rfl rfl <| E.off rfl rfl rfl rfl <| E.off rfl rfl rfl rfl <| E.pick rfl rfl rfl <| E.mv rfl rfl <| E.off rfl rfl rfl rfl <| E.off rfl rfl rfl rfl <| E.off rfl rfl rfl rfl <| E.pick rfl rfl rfl <| E.nil <| X.join0  (Sub.cons (look_eq rfl (congrArg Value.bool (by simp [g13]))) <| Sub.nil _) rfl hM
  ·
   try simp only [Ya, Yb, Yc, Yd, Ye, Yf] at g13
   refine E.on rfl rfl (E.loadA (cs := mkc r) rfl Try.underlying24 rfl (by kernel_rfl) (hM.bat 1 rfl) rfl ?_)
   refine E.on rfl rfl (E.call rfl rfl (rright_ret r _) ?_)
   rintro _ w4 ⟨rfl, x4⟩
   have hM := hM.ext x4
   try dsimp only [Za, Zb, Zc, Zd, repl] at hM
   refine E.on rfl rfl (E.not rfl rfl ?_)
   refine E.pick rfl rfl rfl <| E.mv rfl rfl <| ?_
   refine E.split 18 rfl (fun g18 => ?_) (fun g18 => ?_)
   ·
    try simp only [Ya, Yb, Yc, Yd, Ye, Yf] at g18

    refine E.off rfl rfl rfl rfl <| E.off rfl rfl rfl rfl <| E.off rfl rfl rfl rfl <| E.pick rfl rfl rfl <| E.nil <| X.join0  (Sub.cons (look_eq rfl (congrArg Value.bool (by simp [g13, g18]))) <| Sub.nil _) rfl hM
   ·
    try simp only [Ya, Yb, Yc, Yd, Ye, Yf] at g18
    refine E.on rfl rfl (E.loadA (cs := mkc d) rfl Try.underlying24 rfl (by kernel_rfl) (hM.bat 2 rfl) rfl ?_)
    refine E.on rfl rfl (E.call rfl rfl (rright_ret d _) ?_)
    rintro _ w5 ⟨rfl, x5⟩
    have hM := hM.ext x5
    try dsimp only [Za, Zb, Zc, Zd, repl] at hM
    refine E.on rfl rfl (E.not rfl rfl ?_)

    refine E.pick rfl rfl rfl <| E.nil <| X.join0  (Sub.cons (look_eq rfl (congrArg Value.bool (by by_cases hz : mok d <;> simp [g13, g18, hz]))) <| Sub.nil _) rfl hM
 rintro  w6 hM
 refine C.cond' rfl (fun hC0 => ?_) (fun hC0 => ?_)
 ·
  refine C.seq <| C.region <| E.asg rfl rfl <| E.asg rfl rfl <| E.nil <| X.next <| C.ret <| X.retT <| ret2 rfl rfl rfl ?_
  exact ⟨.inl ⟨hC0, rfl⟩, hM.toExt⟩
 ·
  obtain ⟨hc, hr, hd⟩ := Decidable.not_not.1 hC0
  have hc' := mok_i hc
  have hr' := mok_i hr
  have hd' := mok_i hd
  have q1 := dt_b (a := r.x - c.x) (b := r.y - c.y) (c := r.x - c.x) (d := r.y - c.y) (by omega) (by omega) (by omega) (by omega)
  have q2 := dt_b (a := d.x - c.x) (b := d.y - c.y) (c := d.x - c.x) (d := d.y - c.y) (by omega) (by omega) (by omega) (by omega)
  obtain ⟨ru, hru, cu⟩ := rdist_fn c r hc hr
  obtain ⟨rv, hrv, cv⟩ := rdist_fn c d hc hd
  have hub := root_b (A := 100000) hru (by omega) (by omega)
  have hvb := root_b (A := 100000) hrv (by omega) (by omega)
  refine C.skip <| X.next <| C.seq <| C.region <| ?_
  refine E.fld (o := 2) (sz := 0) rfl Try.underlying24 rfl rfl (by kernel_rfl) rfl ?_
  refine E.load rfl Try.underlying3 rfl (hM.bcell 0 rfl rfl) rfl ?_
  refine E.fld (o := 2) (sz := 0) rfl Try.underlying24 rfl rfl (by kernel_rfl) rfl ?_
  refine E.load rfl Try.underlying3 rfl (hM.bcell 1 rfl rfl) rfl ?_
  refine E.add rfl rfl (by omega) rfl ?_
  refine E.fld (o := 2) (sz := 0) rfl Try.underlying24 rfl rfl (by kernel_rfl) rfl ?_
  refine E.load rfl Try.underlying3 rfl (hM.bcell 2 rfl rfl) rfl ?_
  refine E.add rfl rfl (by omega) rfl ?_
  refine E.mul rfl rfl (by omega) rfl ?_
  refine E.asg rfl rfl <| E.nil <| X.next <| C.seq <| C.drawn (by kernel_rfl) (by kernel_rfl) <| ?_
  refine Q.loadA (cs := mkc c) rfl Try.underlying24 rfl (by kernel_rfl) (hM.bat 0 rfl) rfl ?_
  refine Q.loadA (cs := mkc r) rfl Try.underlying24 rfl (by kernel_rfl) (hM.bat 1 rfl) rfl ?_
  refine Q.call (v := i64 ru) rfl rfl (fun w' hw' => cu w') ?_
  refine Q.loadA (cs := mkc c) rfl Try.underlying24 rfl (by kernel_rfl) (hM.bat 0 rfl) rfl ?_
  refine Q.loadA (cs := mkc d) rfl Try.underlying24 rfl (by kernel_rfl) (hM.bat 2 rfl) rfl ?_
  refine Q.call (v := i64 rv) rfl rfl (fun w' hw' => cv w') ?_
  refine Q.add rfl rfl (by omega) rfl ?_
  refine Q.mul rfl rfl (by omega) rfl ?_
  obtain ⟨pp, hpp⟩ : ∃ z, z = 3 * (ru + rv) := ⟨_, rfl⟩
  obtain ⟨qq, hqq⟩ : ∃ z, z = 2 * (c.s + r.s + d.s) := ⟨_, rfl⟩
  rw [← hpp, ← hqq]
  have hq0 : 0 < qq := by omega
  refine Q.asg rfl rfl <| Q.nil <| fun w7 hx7 => ?_
  have hM := hM.ext hx7
  refine X.next <| C.seq <| ?_

  refine C.chainE [(8, _), (9, _)] rfl [(49, .bool (decide (pp < 12 * qq ∨ 172 * qq ≤ pp)))] ?_ ?_
  ·
   refine C.region <| E.mv rfl rfl <| E.mv rfl rfl <| ?_
   refine E.mul rfl rfl (by omega) rfl ?_
   refine E.bin rfl rfl rfl rfl <| E.mv rfl rfl <| ?_
   refine E.split 44 rfl (fun g44 => ?_) (fun g44 => ?_)
   ·
    try simp only [Ya, Yb, Yc, Yd, Ye, Yf] at g44
    refine E.off rfl rfl rfl rfl <| E.off rfl rfl rfl rfl <| E.off rfl rfl rfl rfl <| E.off rfl rfl rfl rfl <| E.pick rfl rfl rfl <| E.nil <| X.join0 (Sub.cons (by exact leaf_t (by omega)) <| Sub.nil _) rfl rfl
   ·
    try simp only [Ya, Yb, Yc, Yd, Ye, Yf] at g44
    refine E.on rfl rfl (E.mv rfl rfl ?_)
    refine E.on rfl rfl (E.mv rfl rfl ?_)
    refine E.on rfl rfl (E.mul rfl rfl (by omega) rfl ?_)
    refine E.on rfl rfl (E.bin rfl rfl rfl rfl ?_)
    refine E.pick rfl rfl rfl <| E.nil <| X.join0 (Sub.cons (by exact leaf_d (by omega)) <| Sub.nil _) rfl rfl
  refine C.cond' rfl (fun hC1 => ?_) (fun hC1 => ?_)
  ·
   refine C.seq <| C.region <| E.asg rfl rfl <| E.asg rfl rfl <| E.nil <| X.next <| C.ret <| X.retT <| ret2 rfl rfl rfl ?_
   exact ⟨.inr ⟨⟨hc, hr, hd⟩, ru, rv, hru, hrv, by rcases hC1 with h | h; rw [dim_lo hpp hqq h]; rw [dim_hi hpp hqq h]⟩, hM.toExt⟩
  ·
   refine C.skip <| X.next <| C.seq <| C.region <| E.mv rfl rfl <| E.mv rfl rfl <| ?_
   refine E.mul rfl rfl (by omega) rfl ?_
   refine E.sub' rfl rfl (by omega) rfl ?_
   refine E.mv rfl rfl <| ?_
   refine E.mul rfl rfl (by omega) rfl ?_
   refine E.quo (c := (pp - 8 * qq) / (4 * qq)) rfl rfl (by omega) ((IntWalk.i64_in _ (by rw [Int.tdiv_eq_ediv_of_nonneg (by omega)]; have h1 := Int.ediv_nonneg (show 0 ≤ pp - 8 * qq by omega) (show 0 ≤ 4 * qq by omega); have h2 := Int.ediv_le_self (4 * qq) (show 0 ≤ pp - 8 * qq by omega); omega)).trans (Int.tdiv_eq_ediv_of_nonneg (by omega))) rfl ?_
   have hdl := div_lo hq0 (show 8 * qq ≤ pp by omega)
   have hdh := div_hi (p := pp) hq0
   obtain ⟨n, hn⟩ : ∃ z, z = (pp - 8 * qq) / (4 * qq) := ⟨_, rfl⟩
   rw [← hn] at hdl hdh ⊢
   refine E.mul rfl rfl (by omega) rfl ?_
   refine E.add rfl rfl (by omega) rfl ?_
   refine E.asg rfl rfl <| E.asg rfl rfl <| E.nil <| X.next <| C.ret <| ret2 rfl rfl rfl ?_
   exact ⟨.inr ⟨⟨hc, hr, hd⟩, ru, rv, hru, hrv, by rw [dim_in hpp hqq hC1, ← hn]⟩, hM.toExt⟩
set_option maxHeartbeats 1000000 in
theorem rTriples_ret (p : Value) (l : List Mk) (w : World) (hp : RdF mkc 4 w p l) :
  Ret Try.prog 10 #[p] w fun v w' => TrsV w w' v l := by
 have hM := M.start w
 refine enter Try.func10 rfl (by kernel_rfl) Try.ntmps10 rfl ?_
 refine C.seq <| C.region <| E.asg rfl rfl <| E.asg rfl rfl <| E.nil <| X.next <| C.seq <| C.seq <| C.region <| E.mv rfl rfl <| ?_
 refine E.lenv rfl (RdF.shape (hM.argF0 hp)) Try.underlying22 rfl ?_
 refine E.bin rfl rfl rfl rfl <| E.nil <| X.next <| ?_
 refine C.cond' rfl (fun hC0 => ?_) (fun hC0 => ?_)
 ·
  refine C.seq <| C.region <| E.asg rfl rfl <| E.asg rfl rfl <| E.nil <| X.next <| C.ret <| X.retT <| ret2 rfl rfl rfl ?_
  exact .inl ⟨by omega, rfl, hM.toExt⟩
 ·
  refine C.skip <| X.next <| C.seq <| C.seq <| C.region <| E.asg rfl rfl <| E.nil <| X.next <| C.block <| ?_

  refine C.loop1 [(0, _)] rfl (fun (k : Nat) => [(4, i64 k)]) (fun (k : Nat) w' => M w (Nn) w' [] ∧ k ≤ l.length ∧ ∀ m ∈ l.take k, mok m) (fun (k : Nat) => l.length - k) 0 ?_ ?_ ?_
  · exact Sub.cons rfl <| Sub.nil _
  · exact ⟨hM, Nat.zero_le _, by simp⟩
  rintro k w0 ⟨hM, hk, hal⟩
  refine C.seq <| C.seq <| C.region <| E.mv rfl rfl <| E.mv rfl rfl <| ?_
  refine E.lenv rfl (RdF.shape (hM.argF0 hp)) Try.underlying22 rfl ?_
  refine E.bin rfl rfl rfl rfl <| E.nil <| X.next <| ?_
  refine C.cond' rfl (fun hC1 => ?_) (fun hC1 => ?_)
  ·
   have hk' : k < l.length := by omega
   refine C.skip <| X.next <| C.seq <| C.block <| C.seq <| C.region <| E.mv rfl rfl <| E.mv rfl rfl <| ?_
   refine E.idxF (k := k) rfl rfl (hM.argF0 hp) rfl hk' (by decide) Try.underlying22 (by kernel_rfl) rfl ?_
   refine E.loadA (cs := mkc l[k]) rfl Try.underlying24 rfl (by kernel_rfl) ((hM.argF0 hp).all hk') rfl ?_
   refine E.call rfl rfl (rright_ret l[k] _) ?_
   rintro _ w1 ⟨rfl, x1⟩
   have hM := hM.ext x1
   try dsimp only [Za, Zb, Zc, Zd, repl] at hM
   refine E.not rfl rfl <| E.nil <| X.next <| ?_
   refine C.cond rfl (fun hC2 => ?_) (fun hC2 => ?_)
   ·
    have hno : ¬ mok l[k] := fun h => by simp [h] at hC2
    refine C.seq <| C.region <| E.asg rfl rfl <| E.asg rfl rfl <| E.nil <| X.next <| C.ret <| X.retB <| X.retT <| X.retT <| X.retB <| X.retT <| ret2 rfl rfl rfl ?_
    exact .inr (.inl ⟨by omega, fun h => hno (h _ (List.getElem_mem hk')), rfl, hM.toExt⟩)
   ·
    have hyes : mok l[k] := Decidable.byContradiction fun h => by simp [h] at hC2
    refine C.skip <| X.outN <| X.next <| C.region <| E.mv rfl rfl <| ?_
    refine E.add rfl rfl (by omega) rfl ?_

    refine E.asg rfl rfl <| E.nil <| X.again1 (k + 1) (Sub.cons rfl <| Sub.nil _) rfl ⟨hM, by omega, fun m hm => by rw [← List.take_append_getElem hk'] at hm; exact (List.mem_append.1 hm).elim (hal m) (fun h => by rw [List.mem_singleton] at h; subst h; exact hyes)⟩ (by omega)
  ·
   obtain rfl : k = l.length := by omega
   rw [List.take_length] at hal
   refine C.exit <| X.exitT <| X.exitT <| X.outE <| X.next <| C.seq <| C.region <| E.asg rfl rfl <| E.nil <| X.next <| C.seq <| C.seq <| C.region <| E.asg rfl rfl <| E.nil <| X.next <| C.block <| ?_
   have hM := hM.nilF tec 3 31
   try dsimp only [Za, Zb, Zc, Zd, repl] at hM

   refine C.loop2 [(0, _)] rfl (fun (c : Nat) (vt : Value) => [(5, vt), (6, i64 c)]) (fun (c : Nat) (vt : Value) w' => M w (Nn) w' [Rg.slF tec 3 31 vt (t3 l c 0 0)] ∧ c ≤ l.length) (fun (c : Nat) (vt : Value) => l.length - c) 0 nls ?_ ?_ ?_
   · exact Sub.cons rfl <| Sub.cons rfl <| Sub.nil _
   · exact ⟨hM, Nat.zero_le _⟩
   rintro c vt w2 ⟨hM, hc⟩
   refine C.seq <| C.seq <| C.region <| E.mv rfl rfl <| E.mv rfl rfl <| ?_
   refine E.lenv rfl (RdF.shape (hM.argF0 hp)) Try.underlying22 rfl ?_
   refine E.bin rfl rfl rfl rfl <| E.nil <| X.next <| ?_
   refine C.cond' rfl (fun hC3 => ?_) (fun hC3 => ?_)
   ·
    have hc' : c < l.length := by omega
    refine C.skip <| X.next <| C.seq <| C.block <| C.seq <| C.region <| E.asg rfl rfl <| E.nil <| X.next <| C.block <| ?_

    refine C.loop2 [(0, _), (6, _)] rfl (fun (r : Nat) (vt : Value) => [(5, vt), (7, i64 r)]) (fun (r : Nat) (vt : Value) w' => M w (Nn) w' [Rg.slF tec 3 31 vt (t3 l c r 0)] ∧ r ≤ l.length) (fun (r : Nat) (vt : Value) => l.length - r) 0 vt ?_ ?_ ?_
    · exact Sub.cons rfl <| Sub.cons rfl <| Sub.nil _
    · exact ⟨hM, Nat.zero_le _⟩
    rintro r vt w3 ⟨hM, hr⟩
    refine C.seq <| C.seq <| C.region <| E.mv rfl rfl <| E.mv rfl rfl <| ?_
    refine E.lenv rfl (RdF.shape (hM.argF0 hp)) Try.underlying22 rfl ?_
    refine E.bin rfl rfl rfl rfl <| E.nil <| X.next <| ?_
    refine C.cond' rfl (fun hC4 => ?_) (fun hC4 => ?_)
    ·
     have hr' : r < l.length := by omega
     refine C.skip <| X.next <| C.seq <| C.block <| C.seq <| C.region <| E.asg rfl rfl <| E.nil <| X.next <| C.block <| ?_

     refine C.loop2 [(0, _), (6, _), (7, _)] rfl (fun (d : Nat) (vt : Value) => [(5, vt), (8, i64 d)]) (fun (d : Nat) (vt : Value) w' => M w (Nn) w' [Rg.slF tec 3 31 vt (t3 l c r d)] ∧ d ≤ l.length) (fun (d : Nat) (vt : Value) => l.length - d) 0 vt ?_ ?_ ?_
     · exact Sub.cons rfl <| Sub.cons rfl <| Sub.nil _
     · exact ⟨hM, Nat.zero_le _⟩
     rintro d vt w4 ⟨hM, hd⟩
     refine C.seq <| C.seq <| C.region <| E.mv rfl rfl <| E.mv rfl rfl <| ?_
     refine E.lenv rfl (RdF.shape (hM.argF0 hp)) Try.underlying22 rfl ?_
     refine E.bin rfl rfl rfl rfl <| E.nil <| X.next <| ?_
     refine C.cond' rfl (fun hC5 => ?_) (fun hC5 => ?_)
     ·
      have hd' : d < l.length := by omega
      have hsm := t3_small (by omega) hc' hr' hd'
      refine C.skip <| X.next <| ?_

      refine C.cut1 [(0, _), (6, _), (7, _), (8, _)] rfl (fun (vt : Value) => [(5, vt)]) (fun (vt : Value) w' => M w (Nn) w' [Rg.slF tec 3 31 vt (t3 l c r (d + 1))]) ?_ ?_
      ·
       refine C.block <| ?_

       refine C.chainQ [(0, _), (5, _), (6, _), (7, _), (8, _)] rfl [(69, .bool (decide (c ≠ r ∧ c ≠ d ∧ r ≠ d ∧ tri l[c] l[r] l[d])))] ?_ ?_
       ·
        refine C.drawn (by kernel_rfl) (by kernel_rfl) <| Q.mv rfl rfl <| Q.mv rfl rfl <| Q.bin rfl rfl rfl rfl <| Q.mv rfl rfl <| ?_
        refine Q.split 45 rfl (fun g45 => ?_) (fun g45 => ?_)
        ·
         try simp only [Ya, Yb, Yc, Yd, Ye, Yf] at g45
         refine Q.on rfl rfl (Q.mv rfl rfl ?_)
         refine Q.on rfl rfl (Q.mv rfl rfl ?_)
         refine Q.on rfl rfl (Q.bin rfl rfl rfl rfl ?_)
         refine Q.pick rfl rfl rfl <| Q.mv rfl rfl <| ?_
         refine Q.split 50 rfl (fun g50 => ?_) (fun g50 => ?_)
         ·
          try simp only [Ya, Yb, Yc, Yd, Ye, Yf] at g50
          refine Q.on rfl rfl (Q.mv rfl rfl ?_)
          refine Q.on rfl rfl (Q.mv rfl rfl ?_)
          refine Q.on rfl rfl (Q.bin rfl rfl rfl rfl ?_)
          refine Q.pick rfl rfl rfl <| Q.mv rfl rfl <| ?_
          refine Q.split 55 rfl (fun g55 => ?_) (fun g55 => ?_)
          ·
           try simp only [Ya, Yb, Yc, Yd, Ye, Yf] at g55
           refine Q.on rfl rfl (Q.mv rfl rfl ?_)
           refine Q.on rfl rfl (Q.mv rfl rfl ?_)
           refine Q.on rfl rfl (Q.idxF (k := c) rfl rfl (hM.argF0 hp) rfl hc' (by decide) Try.underlying22 (by kernel_rfl) rfl ?_)
           refine Q.on rfl rfl (Q.loadA (cs := mkc l[c]) rfl Try.underlying24 rfl (by kernel_rfl) ((hM.argF0 hp).all hc') rfl ?_)
           refine Q.on rfl rfl (Q.mv rfl rfl ?_)
           refine Q.on rfl rfl (Q.mv rfl rfl ?_)
           refine Q.on rfl rfl (Q.idxF (k := r) rfl rfl (hM.argF0 hp) rfl hr' (by decide) Try.underlying22 (by kernel_rfl) rfl ?_)
           refine Q.on rfl rfl (Q.loadA (cs := mkc l[r]) rfl Try.underlying24 rfl (by kernel_rfl) ((hM.argF0 hp).all hr') rfl ?_)
           refine Q.on rfl rfl (Q.mv rfl rfl ?_)
           refine Q.on rfl rfl (Q.mv rfl rfl ?_)
           refine Q.on rfl rfl (Q.idxF (k := d) rfl rfl (hM.argF0 hp) rfl hd' (by decide) Try.underlying22 (by kernel_rfl) rfl ?_)
           refine Q.on rfl rfl (Q.loadA (cs := mkc l[d]) rfl Try.underlying24 rfl (by kernel_rfl) ((hM.argF0 hp).all hd') rfl ?_)
           refine Q.on rfl rfl (Q.call (v := .bool (decide (tri l[c] l[r] l[d]))) rfl rfl (fun w' hw' => rfits_ret _ _ _ w' (hal _ (List.getElem_mem hc')) (hal _ (List.getElem_mem hr')) (hal _ (List.getElem_mem hd'))) ?_)
           refine Q.pick rfl rfl rfl <| Q.nil <| fun w5 hx5 => ?_
           refine X.join0 (Sub.cons (look_eq rfl (congrArg Value.bool (by exact decide_eq_decide.2 ⟨fun h => ⟨by omega, by omega, by omega, h⟩, fun h => h.2.2.2⟩))) <| Sub.nil _) rfl hx5
          ·
           try simp only [Ya, Yb, Yc, Yd, Ye, Yf] at g55
           refine Q.off rfl rfl rfl rfl <| Q.off rfl rfl rfl rfl <| Q.off rfl rfl rfl rfl <| Q.off rfl rfl rfl rfl <| Q.off rfl rfl rfl rfl <| Q.off rfl rfl rfl rfl <| Q.off rfl rfl rfl rfl <| Q.off rfl rfl rfl rfl <| Q.off rfl rfl rfl rfl <| Q.off rfl rfl rfl rfl <| Q.off rfl rfl rfl rfl <| Q.off rfl rfl rfl rfl <| Q.off rfl rfl rfl rfl <| Q.pick rfl rfl rfl <| Q.nil <| fun w6 hx6 => ?_
           refine X.join0 (Sub.cons (look_eq rfl (congrArg Value.bool (by exact (decide_eq_false (p := c ≠ r ∧ c ≠ d ∧ r ≠ d ∧ tri l[c] l[r] l[d]) (fun h => by omega)).symm))) <| Sub.nil _) rfl hx6
         ·
          try simp only [Ya, Yb, Yc, Yd, Ye, Yf] at g50
          refine Q.off rfl rfl rfl rfl <| Q.off rfl rfl rfl rfl <| Q.off rfl rfl rfl rfl <| Q.pick rfl rfl rfl <| Q.mv rfl rfl <| Q.off rfl rfl rfl rfl <| Q.off rfl rfl rfl rfl <| Q.off rfl rfl rfl rfl <| Q.off rfl rfl rfl rfl <| Q.off rfl rfl rfl rfl <| Q.off rfl rfl rfl rfl <| Q.off rfl rfl rfl rfl <| Q.off rfl rfl rfl rfl <| Q.off rfl rfl rfl rfl <| Q.off rfl rfl rfl rfl <| Q.off rfl rfl rfl rfl <| Q.off rfl rfl rfl rfl <| Q.off rfl rfl rfl rfl <| Q.pick rfl rfl rfl <| Q.nil <| fun w7 hx7 => ?_
          refine X.join0 (Sub.cons (look_eq rfl (congrArg Value.bool (by exact (decide_eq_false (p := c ≠ r ∧ c ≠ d ∧ r ≠ d ∧ tri l[c] l[r] l[d]) (fun h => by omega)).symm))) <| Sub.nil _) rfl hx7
        ·
         try simp only [Ya, Yb, Yc, Yd, Ye, Yf] at g45
         refine Q.off rfl rfl rfl rfl <| Q.off rfl rfl rfl rfl <| Q.off rfl rfl rfl rfl <| Q.pick rfl rfl rfl <| Q.mv rfl rfl <| Q.off rfl rfl rfl rfl <| Q.off rfl rfl rfl rfl <| Q.off rfl rfl rfl rfl <| Q.pick rfl rfl rfl <| Q.mv rfl rfl <| Q.off rfl rfl rfl rfl <| Q.off rfl rfl rfl rfl <| Q.off rfl rfl rfl rfl <| Q.off rfl rfl rfl rfl <| Q.off rfl rfl rfl rfl <| Q.off rfl rfl rfl rfl <| Q.off rfl rfl rfl rfl <| Q.off rfl rfl rfl rfl <| Q.off rfl rfl rfl rfl <| Q.off rfl rfl rfl rfl <| Q.off rfl rfl rfl rfl <| Q.off rfl rfl rfl rfl <| Q.off rfl rfl rfl rfl <| Q.pick rfl rfl rfl <| Q.nil <| fun w8 hx8 => ?_
         refine X.join0 (Sub.cons (look_eq rfl (congrArg Value.bool (by exact (decide_eq_false (p := c ≠ r ∧ c ≠ d ∧ r ≠ d ∧ tri l[c] l[r] l[d]) (fun h => by omega)).symm))) <| Sub.nil _) rfl hx8
       intro w9 hx9
       have hM := hM.ext hx9
       refine C.cond' rfl (fun hC6 => ?_) (fun hC6 => ?_)
       ·
        refine C.region <| E.mv rfl rfl <| E.mv rfl rfl <| E.mv rfl rfl <| E.mv rfl rfl <| ?_
        refine E.build (cs := tec (c, r, d)) rfl (by kernel_rfl) rfl ?_
        refine E.pushFM 0 (c, r, d) hM rfl rfl rfl Try.underlying27 elem_Tar3_int rfl (by decide) (ones rfl <| ones rfl <| ones rfl <| ones_nil) (by omega) (by omega) (by simp) rfl rfl ?_
        intro v76 u76 w10 hM
        try dsimp only [Za, Zb, Zc, Zd, repl] at hM

        refine E.asg rfl rfl <| E.nil <| X.outN <| X.join1 _ (Sub.cons rfl <| Sub.nil _) rfl (by rw [t3_d (okT_t hc' hr' hd' hC6)]; exact hM)
       ·

        refine C.skip <| X.outN <| X.join1 _ (Sub.cons rfl <| Sub.nil _) rfl (by rw [t3_d0 (okT_f hc' hr' hd' hC6)]; exact hM)
      rintro vt w11 hM
      refine C.region <| E.mv rfl rfl <| ?_
      refine E.add rfl rfl (by omega) rfl ?_

      refine E.asg rfl rfl <| E.nil <| X.again2 (d + 1) _ (Sub.cons rfl <| Sub.cons rfl <| Sub.nil _) rfl ⟨hM, by omega⟩ (by omega)
     ·
      obtain rfl : d = l.length := by omega
      rw [t3_r] at hM
      refine C.exit <| X.exitT <| X.exitT <| X.outE <| X.outN <| X.next <| C.region <| E.mv rfl rfl <| ?_
      refine E.add rfl rfl (by omega) rfl ?_

      refine E.asg rfl rfl <| E.nil <| X.again2 (r + 1) _ (Sub.cons rfl <| Sub.cons rfl <| Sub.nil _) rfl ⟨hM, by omega⟩ (by omega)
    ·
     obtain rfl : r = l.length := by omega
     rw [t3_c] at hM
     refine C.exit <| X.exitT <| X.exitT <| X.outE <| X.outN <| X.next <| C.region <| E.mv rfl rfl <| ?_
     refine E.add rfl rfl (by omega) rfl ?_

     refine E.asg rfl rfl <| E.nil <| X.again2 (c + 1) _ (Sub.cons rfl <| Sub.cons rfl <| Sub.nil _) rfl ⟨hM, by omega⟩ (by omega)
   ·
    obtain rfl : c = l.length := by omega
    refine C.exit <| X.exitT <| X.exitT <| X.outE <| X.next <| C.seq <| C.region <| E.mv rfl rfl <| E.asg rfl rfl <| E.asg rfl rfl <| E.nil <| X.next <| C.ret <| ret2 rfl rfl rfl ?_
    exact .inr (.inr ⟨by omega, hal, _, rfl, hM⟩)
end Go.Proofs.Ytbinlkobmlebpaa
