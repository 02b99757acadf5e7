/- Texts of the claim, laid together: Fd1, Mat, Arg42. -/
import Derived.Test.YtbinlkobmlebpaaProg
import Derived.Test.Ytbinlkobmlebpaax0
import Derived.Test.Ytbinlkobmlebpaax1
import Derived.Test.Ytbinlkobmlebpaax4
set_option linter.unusedSimpArgs false
set_option linter.unusedVariables false
namespace Go.Proofs.Ytbinlkobmlebpaa
open Go.RowKit Sym
open Fi
theorem mok_i {m : Mk} (h : mok m) : 0 ≤ m.x ∧ m.x ≤ 57344 ∧ 0 ≤ m.y ∧ m.y ≤ 57344 ∧ 1 ≤ m.s ∧ m.s ≤ 57344 := h
theorem check_ret (p : Value) (l : List Mk) (w : World) (hp : RdF mkc 4 w p l) :
  Ret Try.prog 29 #[p] w fun v w' => v = i64 (if ∀ m ∈ l, mok m then 0 else 3) ∧ Ext w w' := by
 have hM := M.start w
 refine enter Try.func29 rfl (by kernel_rfl) Try.ntmps29 rfl ?_
 refine C.seq <| C.region <| E.asg rfl rfl <| E.nil <| X.next <| C.seq <| C.seq <| C.region <| E.mv rfl rfl <| ?_
 refine E.lenv rfl (RdF.shape (by exact hM.argF0 (by assumption))) Try.underlying22 rfl ?_
 refine E.mv rfl rfl <| E.nil <| X.next <| C.block <| ?_

 refine C.loop1 [(5, _), (6, _)] rfl (fun (k : Nat) => [(7, i64 k)]) (fun (k : Nat) w' => M w (Nn) w' [] ∧ k ≤ l.length ∧ ∀ m ∈ l.take k, mok m) (fun (k : Nat) => l.length - k) 0 ?_ ?_ ?_
 · exact Sub.cons rfl <| Sub.nil _
 · exact ⟨hM, Nat.zero_le _, by simp⟩
 rintro k w0 ⟨hM, hk, hal⟩
 refine C.seq <| C.region <| E.bin rfl rfl rfl rfl <| E.nil <| X.next <| C.seq <| ?_
 refine C.cond' rfl (fun hC0 => ?_) (fun hC0 => ?_)
 ·
  have hk' : k < l.length := by omega
  have hle := RdF.le hp
  refine C.skip <| X.next <| C.seq <| C.block <| C.seq <| C.region <| ?_
  refine E.idxF (k := k) rfl rfl (hM.argF0 hp) rfl hk' (by decide) Try.underlying22 (by kernel_rfl) rfl ?_
  refine E.loadA (cs := mkc l[k]) rfl Try.underlying24 rfl (by kernel_rfl) ((hM.argF0 hp).all hk') rfl ?_
  refine E.allocM (z := .agg #[.int .i64 0, .int .i64 0, .int .i64 0, .int .i64 0]) (cs := [.int .i64 0, .int .i64 0, .int .i64 0, .int .i64 0]) hM (by kernel_rfl) rfl rfl ?_
  intro b4 w1 hM
  try dsimp only [Za, Zb, Zc, Zd, repl] at hM
  refine E.storeAM 0 (cs := mkc l[k]) hM rfl rfl rfl (by kernel_rfl) rfl (ones rfl <| ones rfl <| ones rfl <| ones rfl <| ones_nil) ?_
  intro w2 hM
  try dsimp only [Za, Zb, Zc, Zd, repl] at hM
  refine E.nil <| X.next <| ?_

  refine C.chainE [(5, _), (6, _), (7, _)] rfl [(31, .bool (decide (¬ mok l[k])))] ?_ ?_
  ·
   refine C.region <| ?_
   refine E.fld (o := 0) (sz := 0) rfl Try.underlying24 rfl rfl (by kernel_rfl) rfl ?_
   refine E.load rfl Try.underlying3 rfl (hM.bcell 0 rfl rfl) rfl ?_
   refine E.fld (o := 1) (sz := 0) rfl Try.underlying24 rfl rfl (by kernel_rfl) rfl ?_
   refine E.load rfl Try.underlying3 rfl (hM.bcell 0 rfl rfl) rfl ?_
   refine E.min2 rfl rfl rfl <| E.bin rfl rfl rfl rfl <| E.mv rfl rfl <| ?_
   refine E.split 17 rfl (fun g17 => ?_) (fun g17 => ?_)
   ·
    try simp only [Ya, Yb, Yc, Yd, Ye, Yf] at g17
    refine E.off rfl rfl rfl rfl <| E.off rfl rfl rfl rfl <| E.off rfl rfl rfl rfl <| E.pick rfl rfl rfl <| E.mv rfl rfl <| E.off rfl rfl rfl rfl <| E.off rfl rfl rfl rfl <| E.off rfl rfl rfl rfl <| E.off rfl rfl rfl rfl <| E.off rfl rfl rfl rfl <| E.off rfl rfl rfl rfl <| E.off rfl rfl rfl rfl <| E.off rfl rfl rfl rfl <| E.pick rfl rfl rfl <| E.nil <| X.join0 (Sub.cons (look_eq rfl (congrArg Value.bool (by unfold mok; first | exact (decide_eq_true (by omega)).symm | exact decide_eq_decide.2 ⟨fun h => by omega, fun h => by omega⟩))) <| Sub.nil _) rfl rfl
   ·
    try simp only [Ya, Yb, Yc, Yd, Ye, Yf] at g17
    refine E.on rfl rfl (E.fld (o := 2) (sz := 0) rfl Try.underlying24 rfl rfl (by kernel_rfl) rfl ?_)
    refine E.on rfl rfl (E.load rfl Try.underlying3 rfl (hM.bcell 0 rfl rfl) rfl ?_)
    refine E.on rfl rfl (E.bin rfl rfl rfl rfl ?_)
    refine E.pick rfl rfl rfl <| E.mv rfl rfl <| ?_
    refine E.split 22 rfl (fun g22 => ?_) (fun g22 => ?_)
    ·
     try simp only [Ya, Yb, Yc, Yd, Ye, Yf] at g22
     refine E.off rfl rfl rfl rfl <| E.off rfl rfl rfl rfl <| E.off rfl rfl rfl rfl <| E.off rfl rfl rfl rfl <| E.off rfl rfl rfl rfl <| E.off rfl rfl rfl rfl <| E.off rfl rfl rfl rfl <| E.off rfl rfl rfl rfl <| E.pick rfl rfl rfl <| E.nil <| X.join0 (Sub.cons (look_eq rfl (congrArg Value.bool (by unfold mok; first | exact (decide_eq_true (by omega)).symm | exact decide_eq_decide.2 ⟨fun h => by omega, fun h => by omega⟩))) <| Sub.nil _) rfl rfl
    ·
     try simp only [Ya, Yb, Yc, Yd, Ye, Yf] at g22
     refine E.on rfl rfl (E.fld (o := 0) (sz := 0) rfl Try.underlying24 rfl rfl (by kernel_rfl) rfl ?_)
     refine E.on rfl rfl (E.load rfl Try.underlying3 rfl (hM.bcell 0 rfl rfl) rfl ?_)
     refine E.on rfl rfl (E.fld (o := 1) (sz := 0) rfl Try.underlying24 rfl rfl (by kernel_rfl) rfl ?_)
     refine E.on rfl rfl (E.load rfl Try.underlying3 rfl (hM.bcell 0 rfl rfl) rfl ?_)
     refine E.on rfl rfl (E.fld (o := 2) (sz := 0) rfl Try.underlying24 rfl rfl (by kernel_rfl) rfl ?_)
     refine E.on rfl rfl (E.load rfl Try.underlying3 rfl (hM.bcell 0 rfl rfl) rfl ?_)
     refine E.on rfl rfl (E.max3 rfl rfl rfl rfl ?_)
     refine E.on rfl rfl (E.bin rfl rfl rfl rfl ?_)
     refine E.pick rfl rfl rfl <| E.nil <| X.join0 (Sub.cons (look_eq rfl (congrArg Value.bool (by unfold mok; first | exact (decide_eq_true (by omega)).symm | exact decide_eq_decide.2 ⟨fun h => by omega, fun h => by omega⟩))) <| Sub.nil _) rfl rfl
  refine C.cond' rfl (fun hC1 => ?_) (fun hC1 => ?_)
  ·
   refine C.seq <| C.region <| E.asg rfl rfl <| E.nil <| X.next <| C.ret <| X.retB <| X.retT <| X.retT <| X.retB <| X.retT <| ret1 rfl rfl ?_
   exact ⟨by rw [if_neg (fun h => hC1 (h _ (List.getElem_mem hk')))], hM.toExt⟩
  ·
   refine C.skip <| X.outN <| X.next <| C.region <| ?_
   refine E.add rfl rfl (by omega) rfl ?_

   refine E.mv rfl rfl <| E.nil <| X.again1 (k + 1) (Sub.cons rfl <| Sub.nil _) rfl ⟨hM.pick [] (by decide), by omega, fun m hm => by rw [← List.take_append_getElem hk'] at hm; exact (List.mem_append.1 hm).elim (hal m) (fun h => by rw [List.mem_singleton] at h; subst h; exact Decidable.not_not.1 hC1)⟩ (by omega)
 ·
  obtain rfl : k = l.length := by omega
  rw [List.take_length] at hal
  refine C.exit <| X.exitT <| X.exitT <| X.outE <| X.next <| C.seq <| C.region <| E.asg rfl rfl <| E.nil <| X.next <| C.ret <| ret1 rfl rfl ?_
  exact ⟨by rw [if_pos hal], hM.toExt⟩
theorem vector_ret (a b : Mk) (w : World) (ha : mok a) (hb : mok b) :
  Ret Try.prog 33 #[mkv a, mkv b] w fun v w' => v = .agg #[i64 (b.x - a.x), i64 (b.y - a.y)] ∧ Ext w w' := by
 have hM := M.start w
 refine enter Try.func33 rfl (by kernel_rfl) Try.ntmps33 rfl ?_
 refine C.seq <| C.region <| ?_
 have ha' := mok_i ha
 have hb' := mok_i hb
 refine E.boxM hM rfl rfl rfl ?_
 intro b2 w0 hM
 try dsimp only [Za, Zb, Zc, Zd, repl] at hM
 refine E.boxM hM rfl rfl rfl ?_
 intro b3 w1 hM
 try dsimp only [Za, Zb, Zc, Zd, repl] at hM
 refine E.allocM (z := .agg #[.int .i64 0, .int .i64 0]) (cs := [.int .i64 0, .int .i64 0]) hM (by kernel_rfl) rfl rfl ?_
 intro b4 w2 hM
 try dsimp only [Za, Zb, Zc, Zd, repl] at hM
 refine E.nil <| X.next <| C.seq <| C.region <| ?_
 refine E.fld (o := 0) (sz := 0) rfl Try.underlying24 rfl rfl (by kernel_rfl) rfl ?_
 refine E.load rfl Try.underlying3 rfl (hM.bcell 1 rfl rfl) rfl ?_
 refine E.fld (o := 0) (sz := 0) rfl Try.underlying24 rfl rfl (by kernel_rfl) rfl ?_
 refine E.load rfl Try.underlying3 rfl (hM.bcell 0 rfl rfl) rfl ?_
 refine E.sub' rfl rfl (by omega) rfl ?_
 refine E.fld (o := 1) (sz := 0) rfl Try.underlying24 rfl rfl (by kernel_rfl) rfl ?_
 refine E.load rfl Try.underlying3 rfl (hM.bcell 1 rfl rfl) rfl ?_
 refine E.fld (o := 1) (sz := 0) rfl Try.underlying24 rfl rfl (by kernel_rfl) rfl ?_
 refine E.load rfl Try.underlying3 rfl (hM.bcell 0 rfl rfl) rfl ?_
 refine E.sub' rfl rfl (by omega) rfl ?_
 refine E.buildC (cs := [_, _]) [.int .i64 0, .int .i64 0] [0, 1] rfl rfl (by kernel_rfl) rfl ?_
 refine E.storeAM 2 (cs := [i64 (b.x - a.x), i64 (b.y - a.y)]) hM rfl rfl rfl (by kernel_rfl) rfl (ones rfl <| ones rfl <| ones_nil) ?_
 intro w3 hM
 try dsimp only [Za, Zb, Zc, Zd, repl] at hM
 refine E.nil <| X.next <| C.ret <| retA rfl rfl Try.underlying64 rfl (by exact hM.blk 2 rfl) (by kernel_rfl) ?_
 exact ⟨rfl, hM.toExt⟩
theorem dot_ret (a b c d : Int) (w : World) (ha : -57344 ≤ a ∧ a ≤ 57344) (hb : -57344 ≤ b ∧ b ≤ 57344) (hc : -57344 ≤ c ∧ c ≤ 57344) (hd : -57344 ≤ d ∧ d ≤ 57344) :
  Ret Try.prog 35 #[.agg #[i64 a, i64 b], .agg #[i64 c, i64 d]] w fun v w' => v = i64 (dt a b c d) ∧ Ext w w' := by
 have hM := M.start w
 refine enter Try.func35 rfl (by kernel_rfl) Try.ntmps35 rfl ?_
 refine C.seq <| C.region <| ?_
 have hdb := dt_b ha hb hc hd
 refine E.boxM hM rfl rfl rfl ?_
 intro b2 w0 hM
 try dsimp only [Za, Zb, Zc, Zd, repl] at hM
 refine E.boxM hM rfl rfl rfl ?_
 intro b3 w1 hM
 try dsimp only [Za, Zb, Zc, Zd, repl] at hM
 refine E.asg rfl rfl <| E.nil <| X.next <| C.seq <| C.region <| ?_
 refine E.fld (o := 0) (sz := 0) rfl Try.underlying64 rfl rfl (by kernel_rfl) rfl ?_
 refine E.load rfl Try.underlying3 rfl (hM.bcell 0 rfl rfl) rfl ?_
 refine E.fld (o := 0) (sz := 0) rfl Try.underlying64 rfl rfl (by kernel_rfl) rfl ?_
 refine E.load rfl Try.underlying3 rfl (hM.bcell 1 rfl rfl) rfl ?_
 refine E.mul rfl rfl (by omega) rfl ?_
 refine E.fld (o := 1) (sz := 0) rfl Try.underlying64 rfl rfl (by kernel_rfl) rfl ?_
 refine E.load rfl Try.underlying3 rfl (hM.bcell 0 rfl rfl) rfl ?_
 refine E.fld (o := 1) (sz := 0) rfl Try.underlying64 rfl rfl (by kernel_rfl) rfl ?_
 refine E.load rfl Try.underlying3 rfl (hM.bcell 1 rfl rfl) rfl ?_
 refine E.mul rfl rfl (by omega) rfl ?_
 refine E.add rfl rfl (by omega) rfl ?_
 refine E.asg rfl rfl <| E.nil <| X.next <| C.ret <| ret1 rfl rfl ?_
 exact ⟨rfl, hM.toExt⟩
theorem root_ret (n : Int) (w : World) (h0 : 0 ≤ n) (h1 : n < 4611686018427387904) :
  Ret Try.prog 34 #[i64 n] w fun v w' => ∃ r : Int, v = i64 r ∧ isR n r ∧ Ext w w' := by
 have hM := M.start w
 refine enter Try.func34 rfl (by kernel_rfl) Try.ntmps34 rfl ?_
 refine C.seq <| C.region <| E.asg rfl rfl <| E.nil <| X.next <| C.seq <| C.region <| E.asg rfl rfl <| E.asg rfl rfl <| E.nil <| X.next <| C.seq <| C.block <| ?_

 refine C.loop2 [(0, _)] rfl (fun (a : Int) (b : Int) => [(3, i64 a), (4, i64 b)]) (fun (a : Int) (b : Int) w' => M w (Nn) w' [] ∧ 0 ≤ a ∧ a < b ∧ b ≤ 2147483648 ∧ a * a ≤ n ∧ n < b * b) (fun (a : Int) (b : Int) => (b - a).toNat) 0 2147483648 ?_ ?_ ?_
 · exact Sub.cons rfl <| Sub.cons rfl <| Sub.nil _
 · exact ⟨hM, by omega, by omega, by omega, by omega, by omega⟩
 rintro a b w0 ⟨hM, ha, hab, hb, han, hbn⟩
 refine C.seq <| C.seq <| C.region <| E.mv rfl rfl <| ?_
 refine E.add rfl rfl (by omega) rfl ?_
 refine E.mv rfl rfl <| E.bin rfl rfl rfl rfl <| E.nil <| X.next <| ?_
 refine C.cond' rfl (fun hC0 => ?_) (fun hC0 => ?_)
 ·
  have hmm := mul_b (a := (a + b) / 2) (b := (a + b) / 2) (A := 2147483648) (B := 2147483648) (by omega) (by omega)
  refine C.skip <| X.next <| C.block <| C.seq <| C.region <| E.mv rfl rfl <| E.mv rfl rfl <| ?_
  refine E.add rfl rfl (by omega) rfl ?_
  refine E.quo rfl rfl (by omega) (IntWalk.i64_quo _ _ (by omega)) rfl ?_
  refine E.asg rfl rfl <| E.nil <| X.next <| C.seq <| C.region <| E.mv rfl rfl <| E.mv rfl rfl <| ?_
  refine E.mul rfl rfl (by omega) rfl ?_
  refine E.mv rfl rfl <| E.bin rfl rfl rfl rfl <| E.nil <| X.next <| ?_
  refine C.cond' rfl (fun hC1 => ?_) (fun hC1 => ?_)
  ·

   refine C.region <| E.mv rfl rfl <| E.asg rfl rfl <| E.nil <| X.outN <| X.again2 ((a + b) / 2) b (Sub.cons rfl <| Sub.cons rfl <| Sub.nil _) rfl ⟨hM, by omega, by omega, hb, hC1, hbn⟩ (by omega)
  ·

   refine C.region <| E.mv rfl rfl <| E.asg rfl rfl <| E.nil <| X.outN <| X.again2 a ((a + b) / 2) (Sub.cons rfl <| Sub.cons rfl <| Sub.nil _) rfl ⟨hM, ha, by omega, by omega, han, by omega⟩ (by omega)
 ·
  obtain rfl : b = a + 1 := by omega
  refine C.exit <| X.exitT <| X.exitT <| X.outE <| X.next <| C.seq <| C.region <| E.mv rfl rfl <| E.asg rfl rfl <| E.nil <| X.next <| C.ret <| ret1 rfl rfl ?_
  exact ⟨a, rfl, ⟨ha, han, hbn⟩, hM.toExt⟩
set_option maxHeartbeats 1000000 in
theorem triple_ret (c r d : Mk) (w : World) (hc : mok c) (hr : mok r) (hd : mok d) :
  Ret Try.prog 30 #[mkv c, mkv r, mkv d] w fun v w' => v = .bool (decide (tri c r d)) ∧ Ext w w' := by
 have hM := M.start w
 refine enter Try.func30 rfl (by kernel_rfl) Try.ntmps30 rfl ?_
 refine C.seq <| C.region <| ?_
 have hc' := mok_i hc
 have hr' := mok_i hr
 have hd' := mok_i hd
 have hss := mul_b (a := 100 * c.s) (b := c.s) (A := 5734400) (B := 57344) (by omega) (by omega)
 have q1 := dt_b (a := r.x - c.x) (b := r.y - c.y) (c := r.x - c.x) (d := r.y - c.y) (by omega) (by omega) (by omega) (by omega)
 have q2 := dt_b (a := d.x - c.x) (b := d.y - c.y) (c := d.x - c.x) (d := d.y - c.y) (by omega) (by omega) (by omega) (by omega)
 have q3 := dt_b (a := r.x - c.x) (b := r.y - c.y) (c := d.x - c.x) (d := d.y - c.y) (by omega) (by omega) (by omega) (by omega)
 have q4 := dt_b (a := r.x - c.x) (b := r.y - c.y) (c := d.y - c.y) (d := d.x - c.x) (by omega) (by omega) (by omega) (by omega)
 have s1 := dt_sq (a := r.x - c.x) (b := r.y - c.y)
 have s2 := dt_sq (a := d.x - c.x) (b := d.y - c.y)
 refine E.boxM hM rfl rfl rfl ?_
 intro b3 w0 hM
 try dsimp only [Za, Zb, Zc, Zd, repl] at hM
 refine E.boxM hM rfl rfl rfl ?_
 intro b4 w1 hM
 try dsimp only [Za, Zb, Zc, Zd, repl] at hM
 refine E.boxM hM rfl rfl rfl ?_
 intro b5 w2 hM
 try dsimp only [Za, Zb, Zc, Zd, repl] at hM
 refine E.asg rfl rfl <| E.nil <| X.next <| ?_

 refine C.cut2 [(3, _), (4, _), (5, _)] rfl (fun (b7 : Nat) (b8 : Nat) => [(7, pv b7), (8, pv b8)]) (fun (b7 : Nat) (b8 : Nat) w' => M w (Nn) w' [Rg.blk b3 24 (Fi.mkc c), Rg.blk b4 24 (Fi.mkc r), Rg.blk b5 24 (Fi.mkc d), Rg.blk b7 64 [i64 (r.x - c.x), i64 (r.y - c.y)], Rg.blk b8 64 [i64 (d.x - c.x), i64 (d.y - c.y)]]) ?_ ?_
 ·
  refine C.heldE (by kernel_rfl) fun wh3 hwh3 _ => ?_
  have hS := hwh3
  have hM0 := hM
  have hM := M.ofExt hwh3
  refine H.takeV 0 rfl rfl (by kernel_rfl) (by kernel_rfl) (by kernel_rfl) hS (Y.loadA rfl Try.underlying24 rfl (by kernel_rfl) (by exact (hM0.ext hS).bat 0 rfl)) (fun w' hS => by have hM := hM0.ext hS; exact Y.loadA rfl Try.underlying24 rfl (by kernel_rfl) (by exact hM.bat 0 rfl)) rfl ?_
  refine H.takeV 1 rfl rfl (by kernel_rfl) (by kernel_rfl) (by kernel_rfl) hS (Y.loadA rfl Try.underlying24 rfl (by kernel_rfl) (by exact (hM0.ext hS).bat 1 rfl)) (fun w' hS => by have hM := hM0.ext hS; exact Y.loadA rfl Try.underlying24 rfl (by kernel_rfl) (by exact hM.bat 1 rfl)) rfl ?_
  refine H.takeV 3 rfl rfl (by kernel_rfl) (by kernel_rfl) (by kernel_rfl) hS (Y.loadA rfl Try.underlying24 rfl (by kernel_rfl) (by exact (hM0.ext hS).bat 0 rfl)) (fun w' hS => by have hM := hM0.ext hS; exact Y.loadA rfl Try.underlying24 rfl (by kernel_rfl) (by exact hM.bat 0 rfl)) rfl ?_
  refine H.takeV 4 rfl rfl (by kernel_rfl) (by kernel_rfl) (by kernel_rfl) hS (Y.loadA rfl Try.underlying24 rfl (by kernel_rfl) (by exact (hM0.ext hS).bat 2 rfl)) (fun w' hS => by have hM := hM0.ext hS; exact Y.loadA rfl Try.underlying24 rfl (by kernel_rfl) (by exact hM.bat 2 rfl)) rfl ?_
  refine H.three 2 6 7 rfl rfl rfl (by kernel_rfl) ?_ ?_ ?_
  ·
   refine E.call rfl rfl (vector_ret c r _ hc hr) ?_
   rintro _ w4 ⟨rfl, x4⟩
   have hM := hM.ext x4
   try dsimp only [Za, Zb, Zc, Zd, repl] at hM
   have hS := hM.toExt
   refine H.back hS ?_
   refine H.three 5 6 7 rfl rfl rfl (by kernel_rfl) ?_ ?_ ?_
   ·
    refine E.call rfl rfl (vector_ret c d _ hc hd) ?_
    rintro _ w5 ⟨rfl, x5⟩
    have hM := hM.ext x5
    try dsimp only [Za, Zb, Zc, Zd, repl] at hM
    have hS := hM.toExt
    refine H.back hS ?_
    refine H.two 6 7 rfl rfl (by kernel_rfl) ?_ ?_
    ·
     refine E.allocM (z := .agg #[.int .i64 0, .int .i64 0]) (cs := [.int .i64 0, .int .i64 0]) hM (by kernel_rfl) rfl rfl ?_
     intro b7 w6 hM
     try dsimp only [Za, Zb, Zc, Zd, repl] at hM
     have hS := hM.toExt
     refine H.back hS ?_
     refine H.only 7 rfl (by kernel_rfl) ?_
     refine E.allocM (z := .agg #[.int .i64 0, .int .i64 0]) (cs := [.int .i64 0, .int .i64 0]) hM (by kernel_rfl) rfl rfl ?_
     intro b8 w7 hM
     try dsimp only [Za, Zb, Zc, Zd, repl] at hM
     have hS := hM.toExt
     refine H.back hS ?_
     refine H.only 8 rfl (by kernel_rfl) ?_
     first
      | refine E.storeAM 0 hM rfl rfl rfl (by kernel_rfl) rfl ?_ ?_
      | refine E.storeAM 1 hM rfl rfl rfl (by kernel_rfl) rfl ?_ ?_
      | refine E.storeAM 2 hM rfl rfl rfl (by kernel_rfl) rfl ?_ ?_
      | refine E.storeAM 3 hM rfl rfl rfl (by kernel_rfl) rfl ?_ ?_
      | refine E.storeAM 4 hM rfl rfl rfl (by kernel_rfl) rfl ?_ ?_
      | refine E.storeAM 5 hM rfl rfl rfl (by kernel_rfl) rfl ?_ ?_
     · exact ones (by rfl) <| ones (by rfl) <| ones_nil
     intro w8 hM
     try dsimp only [Za, Zb, Zc, Zd, repl] at hM
     have hS := hM.toExt
     refine H.back hS ?_
     refine H.only 9 rfl (by kernel_rfl) ?_
     first
      | refine E.storeAM 0 hM rfl rfl rfl (by kernel_rfl) rfl ?_ ?_
      | refine E.storeAM 1 hM rfl rfl rfl (by kernel_rfl) rfl ?_ ?_
      | refine E.storeAM 2 hM rfl rfl rfl (by kernel_rfl) rfl ?_ ?_
      | refine E.storeAM 3 hM rfl rfl rfl (by kernel_rfl) rfl ?_ ?_
      | refine E.storeAM 4 hM rfl rfl rfl (by kernel_rfl) rfl ?_ ?_
      | refine E.storeAM 5 hM rfl rfl rfl (by kernel_rfl) rfl ?_ ?_
     · exact ones (by rfl) <| ones (by rfl) <| ones_nil
     intro w9 hM
     try dsimp only [Za, Zb, Zc, Zd, repl] at hM
     have hS := hM.toExt
     refine H.back hS ?_
     refine H.done (by kernel_rfl) ?_
     have hM := hM0.call hM

     refine X.join2 _ _ (Sub.cons rfl <| Sub.cons rfl <| Sub.nil _) rfl (by (try exact hM); (try exact hM.pick [0, 1, 2, 4, 3] (by decide)))
    ·
     refine E.allocM (z := .agg #[.int .i64 0, .int .i64 0]) (cs := [.int .i64 0, .int .i64 0]) hM (by kernel_rfl) rfl rfl ?_
     intro b8 w10 hM
     try dsimp only [Za, Zb, Zc, Zd, repl] at hM
     have hS := hM.toExt
     refine H.back hS ?_
     refine H.only 6 rfl (by kernel_rfl) ?_
     refine E.allocM (z := .agg #[.int .i64 0, .int .i64 0]) (cs := [.int .i64 0, .int .i64 0]) hM (by kernel_rfl) rfl rfl ?_
     intro b7 w11 hM
     try dsimp only [Za, Zb, Zc, Zd, repl] at hM
     have hS := hM.toExt
     refine H.back hS ?_
     refine H.only 8 rfl (by kernel_rfl) ?_
     first
      | refine E.storeAM 0 hM rfl rfl rfl (by kernel_rfl) rfl ?_ ?_
      | refine E.storeAM 1 hM rfl rfl rfl (by kernel_rfl) rfl ?_ ?_
      | refine E.storeAM 2 hM rfl rfl rfl (by kernel_rfl) rfl ?_ ?_
      | refine E.storeAM 3 hM rfl rfl rfl (by kernel_rfl) rfl ?_ ?_
      | refine E.storeAM 4 hM rfl rfl rfl (by kernel_rfl) rfl ?_ ?_
      | refine E.storeAM 5 hM rfl rfl rfl (by kernel_rfl) rfl ?_ ?_
     · exact ones (by rfl) <| ones (by rfl) <| ones_nil
     intro w12 hM
     try dsimp only [Za, Zb, Zc, Zd, repl] at hM
     have hS := hM.toExt
     refine H.back hS ?_
     refine H.only 9 rfl (by kernel_rfl) ?_
     first
      | refine E.storeAM 0 hM rfl rfl rfl (by kernel_rfl) rfl ?_ ?_
      | refine E.storeAM 1 hM rfl rfl rfl (by kernel_rfl) rfl ?_ ?_
      | refine E.storeAM 2 hM rfl rfl rfl (by kernel_rfl) rfl ?_ ?_
      | refine E.storeAM 3 hM rfl rfl rfl (by kernel_rfl) rfl ?_ ?_
      | refine E.storeAM 4 hM rfl rfl rfl (by kernel_rfl) rfl ?_ ?_
      | refine E.storeAM 5 hM rfl rfl rfl (by kernel_rfl) rfl ?_ ?_
     · exact ones (by rfl) <| ones (by rfl) <| ones_nil
     intro w13 hM
     try dsimp only [Za, Zb, Zc, Zd, repl] at hM
     have hS := hM.toExt
     refine H.back hS ?_
     refine H.done (by kernel_rfl) ?_
     have hM := hM0.call hM

     refine X.join2 _ _ (Sub.cons rfl <| Sub.cons rfl <| Sub.nil _) rfl (by (try exact hM); (try exact hM.pick [0, 1, 2, 4, 3] (by decide)))
   ·
    refine E.allocM (z := .agg #[.int .i64 0, .int .i64 0]) (cs := [.int .i64 0, .int .i64 0]) hM (by kernel_rfl) rfl rfl ?_
    intro b7 w14 hM
    try dsimp only [Za, Zb, Zc, Zd, repl] at hM
    have hS := hM.toExt
    refine H.back hS ?_
    refine H.two 5 7 rfl rfl (by kernel_rfl) ?_ ?_
    ·
     refine E.call rfl rfl (vector_ret c d _ hc hd) ?_
     rintro _ w5 ⟨rfl, x5⟩
     have hM := hM.ext x5
     try dsimp only [Za, Zb, Zc, Zd, repl] at hM
     have hS := hM.toExt
     refine H.back hS ?_
     refine H.only 7 rfl (by kernel_rfl) ?_
     refine E.allocM (z := .agg #[.int .i64 0, .int .i64 0]) (cs := [.int .i64 0, .int .i64 0]) hM (by kernel_rfl) rfl rfl ?_
     intro b8 w16 hM
     try dsimp only [Za, Zb, Zc, Zd, repl] at hM
     have hS := hM.toExt
     refine H.back hS ?_
     refine H.only 8 rfl (by kernel_rfl) ?_
     first
      | refine E.storeAM 0 hM rfl rfl rfl (by kernel_rfl) rfl ?_ ?_
      | refine E.storeAM 1 hM rfl rfl rfl (by kernel_rfl) rfl ?_ ?_
      | refine E.storeAM 2 hM rfl rfl rfl (by kernel_rfl) rfl ?_ ?_
      | refine E.storeAM 3 hM rfl rfl rfl (by kernel_rfl) rfl ?_ ?_
      | refine E.storeAM 4 hM rfl rfl rfl (by kernel_rfl) rfl ?_ ?_
      | refine E.storeAM 5 hM rfl rfl rfl (by kernel_rfl) rfl ?_ ?_
     · exact ones (by rfl) <| ones (by rfl) <| ones_nil
     intro w17 hM
     try dsimp only [Za, Zb, Zc, Zd, repl] at hM
     have hS := hM.toExt
     refine H.back hS ?_
     refine H.only 9 rfl (by kernel_rfl) ?_
     first
      | refine E.storeAM 0 hM rfl rfl rfl (by kernel_rfl) rfl ?_ ?_
      | refine E.storeAM 1 hM rfl rfl rfl (by kernel_rfl) rfl ?_ ?_
      | refine E.storeAM 2 hM rfl rfl rfl (by kernel_rfl) rfl ?_ ?_
      | refine E.storeAM 3 hM rfl rfl rfl (by kernel_rfl) rfl ?_ ?_
      | refine E.storeAM 4 hM rfl rfl rfl (by kernel_rfl) rfl ?_ ?_
      | refine E.storeAM 5 hM rfl rfl rfl (by kernel_rfl) rfl ?_ ?_
     · exact ones (by rfl) <| ones (by rfl) <| ones_nil
     intro w18 hM
     try dsimp only [Za, Zb, Zc, Zd, repl] at hM
     have hS := hM.toExt
     refine H.back hS ?_
     refine H.done (by kernel_rfl) ?_
     have hM := hM0.call hM

     refine X.join2 _ _ (Sub.cons rfl <| Sub.cons rfl <| Sub.nil _) rfl (by (try exact hM); (try exact hM.pick [0, 1, 2, 4, 3] (by decide)))
    ·
     refine E.allocM (z := .agg #[.int .i64 0, .int .i64 0]) (cs := [.int .i64 0, .int .i64 0]) hM (by kernel_rfl) rfl rfl ?_
     intro b8 w19 hM
     try dsimp only [Za, Zb, Zc, Zd, repl] at hM
     have hS := hM.toExt
     refine H.back hS ?_
     refine H.only 5 rfl (by kernel_rfl) ?_
     refine E.call rfl rfl (vector_ret c d _ hc hd) ?_
     rintro _ w5 ⟨rfl, x5⟩
     have hM := hM.ext x5
     try dsimp only [Za, Zb, Zc, Zd, repl] at hM
     have hS := hM.toExt
     refine H.back hS ?_
     refine H.only 8 rfl (by kernel_rfl) ?_
     first
      | refine E.storeAM 0 hM rfl rfl rfl (by kernel_rfl) rfl ?_ ?_
      | refine E.storeAM 1 hM rfl rfl rfl (by kernel_rfl) rfl ?_ ?_
      | refine E.storeAM 2 hM rfl rfl rfl (by kernel_rfl) rfl ?_ ?_
      | refine E.storeAM 3 hM rfl rfl rfl (by kernel_rfl) rfl ?_ ?_
      | refine E.storeAM 4 hM rfl rfl rfl (by kernel_rfl) rfl ?_ ?_
      | refine E.storeAM 5 hM rfl rfl rfl (by kernel_rfl) rfl ?_ ?_
     · exact ones (by rfl) <| ones (by rfl) <| ones_nil
     intro w21 hM
     try dsimp only [Za, Zb, Zc, Zd, repl] at hM
     have hS := hM.toExt
     refine H.back hS ?_
     refine H.only 9 rfl (by kernel_rfl) ?_
     first
      | refine E.storeAM 0 hM rfl rfl rfl (by kernel_rfl) rfl ?_ ?_
      | refine E.storeAM 1 hM rfl rfl rfl (by kernel_rfl) rfl ?_ ?_
      | refine E.storeAM 2 hM rfl rfl rfl (by kernel_rfl) rfl ?_ ?_
      | refine E.storeAM 3 hM rfl rfl rfl (by kernel_rfl) rfl ?_ ?_
      | refine E.storeAM 4 hM rfl rfl rfl (by kernel_rfl) rfl ?_ ?_
      | refine E.storeAM 5 hM rfl rfl rfl (by kernel_rfl) rfl ?_ ?_
     · exact ones (by rfl) <| ones (by rfl) <| ones_nil
     intro w22 hM
     try dsimp only [Za, Zb, Zc, Zd, repl] at hM
     have hS := hM.toExt
     refine H.back hS ?_
     refine H.done (by kernel_rfl) ?_
     have hM := hM0.call hM

     refine X.join2 _ _ (Sub.cons rfl <| Sub.cons rfl <| Sub.nil _) rfl (by (try exact hM); (try exact hM.pick [0, 1, 2, 4, 3] (by decide)))
   ·
    refine E.allocM (z := .agg #[.int .i64 0, .int .i64 0]) (cs := [.int .i64 0, .int .i64 0]) hM (by kernel_rfl) rfl rfl ?_
    intro b8 w23 hM
    try dsimp only [Za, Zb, Zc, Zd, repl] at hM
    have hS := hM.toExt
    refine H.back hS ?_
    refine H.two 5 6 rfl rfl (by kernel_rfl) ?_ ?_
    ·
     refine E.call rfl rfl (vector_ret c d _ hc hd) ?_
     rintro _ w5 ⟨rfl, x5⟩
     have hM := hM.ext x5
     try dsimp only [Za, Zb, Zc, Zd, repl] at hM
     have hS := hM.toExt
     refine H.back hS ?_
     refine H.only 6 rfl (by kernel_rfl) ?_
     refine E.allocM (z := .agg #[.int .i64 0, .int .i64 0]) (cs := [.int .i64 0, .int .i64 0]) hM (by kernel_rfl) rfl rfl ?_
     intro b7 w25 hM
     try dsimp only [Za, Zb, Zc, Zd, repl] at hM
     have hS := hM.toExt
     refine H.back hS ?_
     refine H.only 8 rfl (by kernel_rfl) ?_
     first
      | refine E.storeAM 0 hM rfl rfl rfl (by kernel_rfl) rfl ?_ ?_
      | refine E.storeAM 1 hM rfl rfl rfl (by kernel_rfl) rfl ?_ ?_
      | refine E.storeAM 2 hM rfl rfl rfl (by kernel_rfl) rfl ?_ ?_
      | refine E.storeAM 3 hM rfl rfl rfl (by kernel_rfl) rfl ?_ ?_
      | refine E.storeAM 4 hM rfl rfl rfl (by kernel_rfl) rfl ?_ ?_
      | refine E.storeAM 5 hM rfl rfl rfl (by kernel_rfl) rfl ?_ ?_
     · exact ones (by rfl) <| ones (by rfl) <| ones_nil
     intro w26 hM
     try dsimp only [Za, Zb, Zc, Zd, repl] at hM
     have hS := hM.toExt
     refine H.back hS ?_
     refine H.only 9 rfl (by kernel_rfl) ?_
     first
      | refine E.storeAM 0 hM rfl rfl rfl (by kernel_rfl) rfl ?_ ?_
      | refine E.storeAM 1 hM rfl rfl rfl (by kernel_rfl) rfl ?_ ?_
      | refine E.storeAM 2 hM rfl rfl rfl (by kernel_rfl) rfl ?_ ?_
      | refine E.storeAM 3 hM rfl rfl rfl (by kernel_rfl) rfl ?_ ?_
      | refine E.storeAM 4 hM rfl rfl rfl (by kernel_rfl) rfl ?_ ?_
      | refine E.storeAM 5 hM rfl rfl rfl (by kernel_rfl) rfl ?_ ?_
     · exact ones (by rfl) <| ones (by rfl) <| ones_nil
     intro w27 hM
     try dsimp only [Za, Zb, Zc, Zd, repl] at hM
     have hS := hM.toExt
     refine H.back hS ?_
     refine H.done (by kernel_rfl) ?_
     have hM := hM0.call hM

     refine X.join2 _ _ (Sub.cons rfl <| Sub.cons rfl <| Sub.nil _) rfl (by (try exact hM); (try exact hM.pick [0, 1, 2, 4, 3] (by decide)))
    ·
     refine E.allocM (z := .agg #[.int .i64 0, .int .i64 0]) (cs := [.int .i64 0, .int .i64 0]) hM (by kernel_rfl) rfl rfl ?_
     intro b7 w28 hM
     try dsimp only [Za, Zb, Zc, Zd, repl] at hM
     have hS := hM.toExt
     refine H.back hS ?_
     refine H.only 5 rfl (by kernel_rfl) ?_
     refine E.call rfl rfl (vector_ret c d _ hc hd) ?_
     rintro _ w5 ⟨rfl, x5⟩
     have hM := hM.ext x5
     try dsimp only [Za, Zb, Zc, Zd, repl] at hM
     have hS := hM.toExt
     refine H.back hS ?_
     refine H.only 8 rfl (by kernel_rfl) ?_
     first
      | refine E.storeAM 0 hM rfl rfl rfl (by kernel_rfl) rfl ?_ ?_
      | refine E.storeAM 1 hM rfl rfl rfl (by kernel_rfl) rfl ?_ ?_
      | refine E.storeAM 2 hM rfl rfl rfl (by kernel_rfl) rfl ?_ ?_
      | refine E.storeAM 3 hM rfl rfl rfl (by kernel_rfl) rfl ?_ ?_
      | refine E.storeAM 4 hM rfl rfl rfl (by kernel_rfl) rfl ?_ ?_
      | refine E.storeAM 5 hM rfl rfl rfl (by kernel_rfl) rfl ?_ ?_
     · exact ones (by rfl) <| ones (by rfl) <| ones_nil
     intro w30 hM
     try dsimp only [Za, Zb, Zc, Zd, repl] at hM
     have hS := hM.toExt
     refine H.back hS ?_
     refine H.only 9 rfl (by kernel_rfl) ?_
     first
      | refine E.storeAM 0 hM rfl rfl rfl (by kernel_rfl) rfl ?_ ?_
      | refine E.storeAM 1 hM rfl rfl rfl (by kernel_rfl) rfl ?_ ?_
      | refine E.storeAM 2 hM rfl rfl rfl (by kernel_rfl) rfl ?_ ?_
      | refine E.storeAM 3 hM rfl rfl rfl (by kernel_rfl) rfl ?_ ?_
      | refine E.storeAM 4 hM rfl rfl rfl (by kernel_rfl) rfl ?_ ?_
      | refine E.storeAM 5 hM rfl rfl rfl (by kernel_rfl) rfl ?_ ?_
     · exact ones (by rfl) <| ones (by rfl) <| ones_nil
     intro w31 hM
     try dsimp only [Za, Zb, Zc, Zd, repl] at hM
     have hS := hM.toExt
     refine H.back hS ?_
     refine H.done (by kernel_rfl) ?_
     have hM := hM0.call hM

     refine X.join2 _ _ (Sub.cons rfl <| Sub.cons rfl <| Sub.nil _) rfl (by (try exact hM); (try exact hM.pick [0, 1, 2, 4, 3] (by decide)))
  ·
   refine E.allocM (z := .agg #[.int .i64 0, .int .i64 0]) (cs := [.int .i64 0, .int .i64 0]) hM (by kernel_rfl) rfl rfl ?_
   intro b7 w32 hM
   try dsimp only [Za, Zb, Zc, Zd, repl] at hM
   have hS := hM.toExt
   refine H.back hS ?_
   refine H.two 2 7 rfl rfl (by kernel_rfl) ?_ ?_
   ·
    refine E.call rfl rfl (vector_ret c r _ hc hr) ?_
    rintro _ w4 ⟨rfl, x4⟩
    have hM := hM.ext x4
    try dsimp only [Za, Zb, Zc, Zd, repl] at hM
    have hS := hM.toExt
    refine H.back hS ?_
    refine H.two 5 7 rfl rfl (by kernel_rfl) ?_ ?_
    ·
     refine E.call rfl rfl (vector_ret c d _ hc hd) ?_
     rintro _ w5 ⟨rfl, x5⟩
     have hM := hM.ext x5
     try dsimp only [Za, Zb, Zc, Zd, repl] at hM
     have hS := hM.toExt
     refine H.back hS ?_
     refine H.only 7 rfl (by kernel_rfl) ?_
     refine E.allocM (z := .agg #[.int .i64 0, .int .i64 0]) (cs := [.int .i64 0, .int .i64 0]) hM (by kernel_rfl) rfl rfl ?_
     intro b8 w35 hM
     try dsimp only [Za, Zb, Zc, Zd, repl] at hM
     have hS := hM.toExt
     refine H.back hS ?_
     refine H.only 8 rfl (by kernel_rfl) ?_
     first
      | refine E.storeAM 0 hM rfl rfl rfl (by kernel_rfl) rfl ?_ ?_
      | refine E.storeAM 1 hM rfl rfl rfl (by kernel_rfl) rfl ?_ ?_
      | refine E.storeAM 2 hM rfl rfl rfl (by kernel_rfl) rfl ?_ ?_
      | refine E.storeAM 3 hM rfl rfl rfl (by kernel_rfl) rfl ?_ ?_
      | refine E.storeAM 4 hM rfl rfl rfl (by kernel_rfl) rfl ?_ ?_
      | refine E.storeAM 5 hM rfl rfl rfl (by kernel_rfl) rfl ?_ ?_
     · exact ones (by rfl) <| ones (by rfl) <| ones_nil
     intro w36 hM
     try dsimp only [Za, Zb, Zc, Zd, repl] at hM
     have hS := hM.toExt
     refine H.back hS ?_
     refine H.only 9 rfl (by kernel_rfl) ?_
     first
      | refine E.storeAM 0 hM rfl rfl rfl (by kernel_rfl) rfl ?_ ?_
      | refine E.storeAM 1 hM rfl rfl rfl (by kernel_rfl) rfl ?_ ?_
      | refine E.storeAM 2 hM rfl rfl rfl (by kernel_rfl) rfl ?_ ?_
      | refine E.storeAM 3 hM rfl rfl rfl (by kernel_rfl) rfl ?_ ?_
      | refine E.storeAM 4 hM rfl rfl rfl (by kernel_rfl) rfl ?_ ?_
      | refine E.storeAM 5 hM rfl rfl rfl (by kernel_rfl) rfl ?_ ?_
     · exact ones (by rfl) <| ones (by rfl) <| ones_nil
     intro w37 hM
     try dsimp only [Za, Zb, Zc, Zd, repl] at hM
     have hS := hM.toExt
     refine H.back hS ?_
     refine H.done (by kernel_rfl) ?_
     have hM := hM0.call hM

     refine X.join2 _ _ (Sub.cons rfl <| Sub.cons rfl <| Sub.nil _) rfl (by (try exact hM); (try exact hM.pick [0, 1, 2, 4, 3] (by decide)))
    ·
     refine E.allocM (z := .agg #[.int .i64 0, .int .i64 0]) (cs := [.int .i64 0, .int .i64 0]) hM (by kernel_rfl) rfl rfl ?_
     intro b8 w38 hM
     try dsimp only [Za, Zb, Zc, Zd, repl] at hM
     have hS := hM.toExt
     refine H.back hS ?_
     refine H.only 5 rfl (by kernel_rfl) ?_
     refine E.call rfl rfl (vector_ret c d _ hc hd) ?_
     rintro _ w5 ⟨rfl, x5⟩
     have hM := hM.ext x5
     try dsimp only [Za, Zb, Zc, Zd, repl] at hM
     have hS := hM.toExt
     refine H.back hS ?_
     refine H.only 8 rfl (by kernel_rfl) ?_
     first
      | refine E.storeAM 0 hM rfl rfl rfl (by kernel_rfl) rfl ?_ ?_
      | refine E.storeAM 1 hM rfl rfl rfl (by kernel_rfl) rfl ?_ ?_
      | refine E.storeAM 2 hM rfl rfl rfl (by kernel_rfl) rfl ?_ ?_
      | refine E.storeAM 3 hM rfl rfl rfl (by kernel_rfl) rfl ?_ ?_
      | refine E.storeAM 4 hM rfl rfl rfl (by kernel_rfl) rfl ?_ ?_
      | refine E.storeAM 5 hM rfl rfl rfl (by kernel_rfl) rfl ?_ ?_
     · exact ones (by rfl) <| ones (by rfl) <| ones_nil
     intro w40 hM
     try dsimp only [Za, Zb, Zc, Zd, repl] at hM
     have hS := hM.toExt
     refine H.back hS ?_
     refine H.only 9 rfl (by kernel_rfl) ?_
     first
      | refine E.storeAM 0 hM rfl rfl rfl (by kernel_rfl) rfl ?_ ?_
      | refine E.storeAM 1 hM rfl rfl rfl (by kernel_rfl) rfl ?_ ?_
      | refine E.storeAM 2 hM rfl rfl rfl (by kernel_rfl) rfl ?_ ?_
      | refine E.storeAM 3 hM rfl rfl rfl (by kernel_rfl) rfl ?_ ?_
      | refine E.storeAM 4 hM rfl rfl rfl (by kernel_rfl) rfl ?_ ?_
      | refine E.storeAM 5 hM rfl rfl rfl (by kernel_rfl) rfl ?_ ?_
     · exact ones (by rfl) <| ones (by rfl) <| ones_nil
     intro w41 hM
     try dsimp only [Za, Zb, Zc, Zd, repl] at hM
     have hS := hM.toExt
     refine H.back hS ?_
     refine H.done (by kernel_rfl) ?_
     have hM := hM0.call hM

     refine X.join2 _ _ (Sub.cons rfl <| Sub.cons rfl <| Sub.nil _) rfl (by (try exact hM); (try exact hM.pick [0, 1, 2, 4, 3] (by decide)))
   ·
    refine E.allocM (z := .agg #[.int .i64 0, .int .i64 0]) (cs := [.int .i64 0, .int .i64 0]) hM (by kernel_rfl) rfl rfl ?_
    intro b8 w42 hM
    try dsimp only [Za, Zb, Zc, Zd, repl] at hM
    have hS := hM.toExt
    refine H.back hS ?_
    refine H.only 2 rfl (by kernel_rfl) ?_
    refine E.call rfl rfl (vector_ret c r _ hc hr) ?_
    rintro _ w4 ⟨rfl, x4⟩
    have hM := hM.ext x4
    try dsimp only [Za, Zb, Zc, Zd, repl] at hM
    have hS := hM.toExt
    refine H.back hS ?_
    refine H.only 5 rfl (by kernel_rfl) ?_
    refine E.call rfl rfl (vector_ret c d _ hc hd) ?_
    rintro _ w5 ⟨rfl, x5⟩
    have hM := hM.ext x5
    try dsimp only [Za, Zb, Zc, Zd, repl] at hM
    have hS := hM.toExt
    refine H.back hS ?_
    refine H.only 8 rfl (by kernel_rfl) ?_
    first
     | refine E.storeAM 0 hM rfl rfl rfl (by kernel_rfl) rfl ?_ ?_
     | refine E.storeAM 1 hM rfl rfl rfl (by kernel_rfl) rfl ?_ ?_
     | refine E.storeAM 2 hM rfl rfl rfl (by kernel_rfl) rfl ?_ ?_
     | refine E.storeAM 3 hM rfl rfl rfl (by kernel_rfl) rfl ?_ ?_
     | refine E.storeAM 4 hM rfl rfl rfl (by kernel_rfl) rfl ?_ ?_
     | refine E.storeAM 5 hM rfl rfl rfl (by kernel_rfl) rfl ?_ ?_
    · exact ones (by rfl) <| ones (by rfl) <| ones_nil
    intro w45 hM
    try dsimp only [Za, Zb, Zc, Zd, repl] at hM
    have hS := hM.toExt
    refine H.back hS ?_
    refine H.only 9 rfl (by kernel_rfl) ?_
    first
     | refine E.storeAM 0 hM rfl rfl rfl (by kernel_rfl) rfl ?_ ?_
     | refine E.storeAM 1 hM rfl rfl rfl (by kernel_rfl) rfl ?_ ?_
     | refine E.storeAM 2 hM rfl rfl rfl (by kernel_rfl) rfl ?_ ?_
     | refine E.storeAM 3 hM rfl rfl rfl (by kernel_rfl) rfl ?_ ?_
     | refine E.storeAM 4 hM rfl rfl rfl (by kernel_rfl) rfl ?_ ?_
     | refine E.storeAM 5 hM rfl rfl rfl (by kernel_rfl) rfl ?_ ?_
    · exact ones (by rfl) <| ones (by rfl) <| ones_nil
    intro w46 hM
    try dsimp only [Za, Zb, Zc, Zd, repl] at hM
    have hS := hM.toExt
    refine H.back hS ?_
    refine H.done (by kernel_rfl) ?_
    have hM := hM0.call hM

    refine X.join2 _ _ (Sub.cons rfl <| Sub.cons rfl <| Sub.nil _) rfl (by (try exact hM); (try exact hM.pick [0, 1, 2, 4, 3] (by decide)))
  ·
   refine E.allocM (z := .agg #[.int .i64 0, .int .i64 0]) (cs := [.int .i64 0, .int .i64 0]) hM (by kernel_rfl) rfl rfl ?_
   intro b8 w47 hM
   try dsimp only [Za, Zb, Zc, Zd, repl] at hM
   have hS := hM.toExt
   refine H.back hS ?_
   refine H.two 2 6 rfl rfl (by kernel_rfl) ?_ ?_
   ·
    refine E.call rfl rfl (vector_ret c r _ hc hr) ?_
    rintro _ w4 ⟨rfl, x4⟩
    have hM := hM.ext x4
    try dsimp only [Za, Zb, Zc, Zd, repl] at hM
    have hS := hM.toExt
    refine H.back hS ?_
    refine H.two 5 6 rfl rfl (by kernel_rfl) ?_ ?_
    ·
     refine E.call rfl rfl (vector_ret c d _ hc hd) ?_
     rintro _ w5 ⟨rfl, x5⟩
     have hM := hM.ext x5
     try dsimp only [Za, Zb, Zc, Zd, repl] at hM
     have hS := hM.toExt
     refine H.back hS ?_
     refine H.only 6 rfl (by kernel_rfl) ?_
     refine E.allocM (z := .agg #[.int .i64 0, .int .i64 0]) (cs := [.int .i64 0, .int .i64 0]) hM (by kernel_rfl) rfl rfl ?_
     intro b7 w50 hM
     try dsimp only [Za, Zb, Zc, Zd, repl] at hM
     have hS := hM.toExt
     refine H.back hS ?_
     refine H.only 8 rfl (by kernel_rfl) ?_
     first
      | refine E.storeAM 0 hM rfl rfl rfl (by kernel_rfl) rfl ?_ ?_
      | refine E.storeAM 1 hM rfl rfl rfl (by kernel_rfl) rfl ?_ ?_
      | refine E.storeAM 2 hM rfl rfl rfl (by kernel_rfl) rfl ?_ ?_
      | refine E.storeAM 3 hM rfl rfl rfl (by kernel_rfl) rfl ?_ ?_
      | refine E.storeAM 4 hM rfl rfl rfl (by kernel_rfl) rfl ?_ ?_
      | refine E.storeAM 5 hM rfl rfl rfl (by kernel_rfl) rfl ?_ ?_
     · exact ones (by rfl) <| ones (by rfl) <| ones_nil
     intro w51 hM
     try dsimp only [Za, Zb, Zc, Zd, repl] at hM
     have hS := hM.toExt
     refine H.back hS ?_
     refine H.only 9 rfl (by kernel_rfl) ?_
     first
      | refine E.storeAM 0 hM rfl rfl rfl (by kernel_rfl) rfl ?_ ?_
      | refine E.storeAM 1 hM rfl rfl rfl (by kernel_rfl) rfl ?_ ?_
      | refine E.storeAM 2 hM rfl rfl rfl (by kernel_rfl) rfl ?_ ?_
      | refine E.storeAM 3 hM rfl rfl rfl (by kernel_rfl) rfl ?_ ?_
      | refine E.storeAM 4 hM rfl rfl rfl (by kernel_rfl) rfl ?_ ?_
      | refine E.storeAM 5 hM rfl rfl rfl (by kernel_rfl) rfl ?_ ?_
     · exact ones (by rfl) <| ones (by rfl) <| ones_nil
     intro w52 hM
     try dsimp only [Za, Zb, Zc, Zd, repl] at hM
     have hS := hM.toExt
     refine H.back hS ?_
     refine H.done (by kernel_rfl) ?_
     have hM := hM0.call hM

     refine X.join2 _ _ (Sub.cons rfl <| Sub.cons rfl <| Sub.nil _) rfl (by (try exact hM); (try exact hM.pick [0, 1, 2, 4, 3] (by decide)))
    ·
     refine E.allocM (z := .agg #[.int .i64 0, .int .i64 0]) (cs := [.int .i64 0, .int .i64 0]) hM (by kernel_rfl) rfl rfl ?_
     intro b7 w53 hM
     try dsimp only [Za, Zb, Zc, Zd, repl] at hM
     have hS := hM.toExt
     refine H.back hS ?_
     refine H.only 5 rfl (by kernel_rfl) ?_
     refine E.call rfl rfl (vector_ret c d _ hc hd) ?_
     rintro _ w5 ⟨rfl, x5⟩
     have hM := hM.ext x5
     try dsimp only [Za, Zb, Zc, Zd, repl] at hM
     have hS := hM.toExt
     refine H.back hS ?_
     refine H.only 8 rfl (by kernel_rfl) ?_
     first
      | refine E.storeAM 0 hM rfl rfl rfl (by kernel_rfl) rfl ?_ ?_
      | refine E.storeAM 1 hM rfl rfl rfl (by kernel_rfl) rfl ?_ ?_
      | refine E.storeAM 2 hM rfl rfl rfl (by kernel_rfl) rfl ?_ ?_
      | refine E.storeAM 3 hM rfl rfl rfl (by kernel_rfl) rfl ?_ ?_
      | refine E.storeAM 4 hM rfl rfl rfl (by kernel_rfl) rfl ?_ ?_
      | refine E.storeAM 5 hM rfl rfl rfl (by kernel_rfl) rfl ?_ ?_
     · exact ones (by rfl) <| ones (by rfl) <| ones_nil
     intro w55 hM
     try dsimp only [Za, Zb, Zc, Zd, repl] at hM
     have hS := hM.toExt
     refine H.back hS ?_
     refine H.only 9 rfl (by kernel_rfl) ?_
     first
      | refine E.storeAM 0 hM rfl rfl rfl (by kernel_rfl) rfl ?_ ?_
      | refine E.storeAM 1 hM rfl rfl rfl (by kernel_rfl) rfl ?_ ?_
      | refine E.storeAM 2 hM rfl rfl rfl (by kernel_rfl) rfl ?_ ?_
      | refine E.storeAM 3 hM rfl rfl rfl (by kernel_rfl) rfl ?_ ?_
      | refine E.storeAM 4 hM rfl rfl rfl (by kernel_rfl) rfl ?_ ?_
      | refine E.storeAM 5 hM rfl rfl rfl (by kernel_rfl) rfl ?_ ?_
     · exact ones (by rfl) <| ones (by rfl) <| ones_nil
     intro w56 hM
     try dsimp only [Za, Zb, Zc, Zd, repl] at hM
     have hS := hM.toExt
     refine H.back hS ?_
     refine H.done (by kernel_rfl) ?_
     have hM := hM0.call hM

     refine X.join2 _ _ (Sub.cons rfl <| Sub.cons rfl <| Sub.nil _) rfl (by (try exact hM); (try exact hM.pick [0, 1, 2, 4, 3] (by decide)))
   ·
    refine E.allocM (z := .agg #[.int .i64 0, .int .i64 0]) (cs := [.int .i64 0, .int .i64 0]) hM (by kernel_rfl) rfl rfl ?_
    intro b7 w57 hM
    try dsimp only [Za, Zb, Zc, Zd, repl] at hM
    have hS := hM.toExt
    refine H.back hS ?_
    refine H.only 2 rfl (by kernel_rfl) ?_
    refine E.call rfl rfl (vector_ret c r _ hc hr) ?_
    rintro _ w4 ⟨rfl, x4⟩
    have hM := hM.ext x4
    try dsimp only [Za, Zb, Zc, Zd, repl] at hM
    have hS := hM.toExt
    refine H.back hS ?_
    refine H.only 5 rfl (by kernel_rfl) ?_
    refine E.call rfl rfl (vector_ret c d _ hc hd) ?_
    rintro _ w5 ⟨rfl, x5⟩
    have hM := hM.ext x5
    try dsimp only [Za, Zb, Zc, Zd, repl] at hM
    have hS := hM.toExt
    refine H.back hS ?_
    refine H.only 8 rfl (by kernel_rfl) ?_
    first
     | refine E.storeAM 0 hM rfl rfl rfl (by kernel_rfl) rfl ?_ ?_
     | refine E.storeAM 1 hM rfl rfl rfl (by kernel_rfl) rfl ?_ ?_
     | refine E.storeAM 2 hM rfl rfl rfl (by kernel_rfl) rfl ?_ ?_
     | refine E.storeAM 3 hM rfl rfl rfl (by kernel_rfl) rfl ?_ ?_
     | refine E.storeAM 4 hM rfl rfl rfl (by kernel_rfl) rfl ?_ ?_
     | refine E.storeAM 5 hM rfl rfl rfl (by kernel_rfl) rfl ?_ ?_
    · exact ones (by rfl) <| ones (by rfl) <| ones_nil
    intro w60 hM
    try dsimp only [Za, Zb, Zc, Zd, repl] at hM
    have hS := hM.toExt
    refine H.back hS ?_
    refine H.only 9 rfl (by kernel_rfl) ?_
    first
     | refine E.storeAM 0 hM rfl rfl rfl (by kernel_rfl) rfl ?_ ?_
     | refine E.storeAM 1 hM rfl rfl rfl (by kernel_rfl) rfl ?_ ?_
     | refine E.storeAM 2 hM rfl rfl rfl (by kernel_rfl) rfl ?_ ?_
     | refine E.storeAM 3 hM rfl rfl rfl (by kernel_rfl) rfl ?_ ?_
     | refine E.storeAM 4 hM rfl rfl rfl (by kernel_rfl) rfl ?_ ?_
     | refine E.storeAM 5 hM rfl rfl rfl (by kernel_rfl) rfl ?_ ?_
    · exact ones (by rfl) <| ones (by rfl) <| ones_nil
    intro w61 hM
    try dsimp only [Za, Zb, Zc, Zd, repl] at hM
    have hS := hM.toExt
    refine H.back hS ?_
    refine H.done (by kernel_rfl) ?_
    have hM := hM0.call hM

    refine X.join2 _ _ (Sub.cons rfl <| Sub.cons rfl <| Sub.nil _) rfl (by (try exact hM); (try exact hM.pick [0, 1, 2, 4, 3] (by decide)))
 rintro b7 b8 w62 hM
 refine C.seq <| C.seq <| C.region <| ?_
 refine E.fld (o := 2) (sz := 0) rfl Try.underlying24 rfl rfl (by kernel_rfl) rfl ?_
 refine E.load rfl Try.underlying3 rfl (hM.bcell 0 rfl rfl) rfl ?_
 refine E.fld (o := 2) (sz := 0) rfl Try.underlying24 rfl rfl (by kernel_rfl) rfl ?_
 refine E.load rfl Try.underlying3 rfl (hM.bcell 1 rfl rfl) rfl ?_
 refine E.fld (o := 2) (sz := 0) rfl Try.underlying24 rfl rfl (by kernel_rfl) rfl ?_
 refine E.load rfl Try.underlying3 rfl (hM.bcell 2 rfl rfl) rfl ?_
 refine E.max3 rfl rfl rfl rfl <| ?_
 refine E.mul rfl rfl (by omega) rfl ?_
 refine E.fld (o := 2) (sz := 0) rfl Try.underlying24 rfl rfl (by kernel_rfl) rfl ?_
 refine E.load rfl Try.underlying3 rfl (hM.bcell 0 rfl rfl) rfl ?_
 refine E.fld (o := 2) (sz := 0) rfl Try.underlying24 rfl rfl (by kernel_rfl) rfl ?_
 refine E.load rfl Try.underlying3 rfl (hM.bcell 1 rfl rfl) rfl ?_
 refine E.fld (o := 2) (sz := 0) rfl Try.underlying24 rfl rfl (by kernel_rfl) rfl ?_
 refine E.load rfl Try.underlying3 rfl (hM.bcell 2 rfl rfl) rfl ?_
 refine E.min3 rfl rfl rfl rfl <| ?_
 refine E.mul rfl rfl (by omega) rfl ?_
 refine E.bin rfl rfl rfl rfl <| E.nil <| X.next <| ?_
 refine C.cond' rfl (fun hC0 => ?_) (fun hC0 => ?_)
 ·
  refine C.seq <| C.region <| E.asg rfl rfl <| E.nil <| X.next <| C.ret <| X.retT <| ret1 rfl rfl ?_
  exact ⟨by congr 1; exact (decide_eq_false (fun h => by have := h.1; omega)).symm, hM.toExt⟩
 ·
  refine C.skip <| X.next <| C.seq <| C.drawn (by kernel_rfl) (by kernel_rfl) <| ?_
  refine Q.loadA (cs := [i64 (r.x - c.x), i64 (r.y - c.y)]) rfl Try.underlying64 rfl (by kernel_rfl) (hM.bat 3 rfl) rfl ?_
  refine Q.loadA (cs := [i64 (r.x - c.x), i64 (r.y - c.y)]) rfl Try.underlying64 rfl (by kernel_rfl) (hM.bat 3 rfl) rfl ?_
  refine Q.call (v := i64 (dt (r.x - c.x) (r.y - c.y) (r.x - c.x) (r.y - c.y))) rfl rfl (fun w' hw' => (dot_ret (r.x - c.x) (r.y - c.y) (r.x - c.x) (r.y - c.y) w' (by omega) (by omega) (by omega) (by omega)).mono fun _ _ h => h) ?_
  refine Q.loadA (cs := [i64 (d.x - c.x), i64 (d.y - c.y)]) rfl Try.underlying64 rfl (by kernel_rfl) (hM.bat 4 rfl) rfl ?_
  refine Q.loadA (cs := [i64 (d.x - c.x), i64 (d.y - c.y)]) rfl Try.underlying64 rfl (by kernel_rfl) (hM.bat 4 rfl) rfl ?_
  refine Q.call (v := i64 (dt (d.x - c.x) (d.y - c.y) (d.x - c.x) (d.y - c.y))) rfl rfl (fun w' hw' => (dot_ret (d.x - c.x) (d.y - c.y) (d.x - c.x) (d.y - c.y) w' (by omega) (by omega) (by omega) (by omega)).mono fun _ _ h => h) ?_
  refine Q.loadA (cs := [i64 (r.x - c.x), i64 (r.y - c.y)]) rfl Try.underlying64 rfl (by kernel_rfl) (hM.bat 3 rfl) rfl ?_
  refine Q.loadA (cs := [i64 (d.x - c.x), i64 (d.y - c.y)]) rfl Try.underlying64 rfl (by kernel_rfl) (hM.bat 4 rfl) rfl ?_
  refine Q.call (v := i64 (dt (r.x - c.x) (r.y - c.y) (d.x - c.x) (d.y - c.y))) rfl rfl (fun w' hw' => (dot_ret (r.x - c.x) (r.y - c.y) (d.x - c.x) (d.y - c.y) w' (by omega) (by omega) (by omega) (by omega)).mono fun _ _ h => h) ?_
  obtain ⟨uu, huu⟩ : ∃ z, z = (dt (r.x - c.x) (r.y - c.y) (r.x - c.x) (r.y - c.y)) := ⟨_, rfl⟩
  obtain ⟨vv, hvv⟩ : ∃ z, z = (dt (d.x - c.x) (d.y - c.y) (d.x - c.x) (d.y - c.y)) := ⟨_, rfl⟩
  obtain ⟨uv, huv⟩ : ∃ z, z = (dt (r.x - c.x) (r.y - c.y) (d.x - c.x) (d.y - c.y)) := ⟨_, rfl⟩
  rw [← huu] at q1 s1 ⊢
  rw [← hvv] at q2 s2 ⊢
  rw [← huv] at q3 ⊢
  have htri : tri c r d ↔ (4 * max (max c.s r.s) d.s ≤ 5 * min (min c.s r.s) d.s ∧ 16 * max uu vv ≤ 25 * min uu vv ∧ 100 * c.s * c.s ≤ min uu vv ∧ 8 * max uv (-uv) ≤ uu + vv ∧ 0 < (r.x - c.x) * (d.y - c.y) - (r.y - c.y) * (d.x - c.x)) := by rw [huu, hvv, huv]; exact Iff.rfl
  refine Q.asg rfl rfl <| Q.asg rfl rfl <| Q.asg rfl rfl <| Q.nil <| fun w63 hx63 => ?_
  have hM := hM.ext hx63
  refine X.next <| C.seq <| ?_

  refine C.chainE [(7, _), (8, _), (9, _), (10, _), (11, _)] rfl [(64, .bool (decide (25 * min uu vv < 16 * max uu vv ∨ min uu vv < 100 * c.s * c.s)))] ?_ ?_
  ·
   refine C.region <| E.mv rfl rfl <| E.mv rfl rfl <| E.max2 rfl rfl rfl <| ?_
   refine E.mul rfl rfl (by omega) rfl ?_
   refine E.mv rfl rfl <| E.mv rfl rfl <| E.min2 rfl rfl rfl <| ?_
   refine E.mul rfl rfl (by omega) rfl ?_
   refine E.bin rfl rfl rfl rfl <| E.mv rfl rfl <| ?_
   refine E.split 53 rfl (fun g53 => ?_) (fun g53 => ?_)
   ·
    try simp only [Ya, Yb, Yc, Yd, Ye, Yf] at g53
    refine E.off rfl rfl rfl rfl <| E.off rfl rfl rfl rfl <| E.off rfl rfl rfl rfl <| E.off rfl rfl rfl rfl <| E.off rfl rfl rfl rfl <| E.off rfl rfl rfl rfl <| E.off rfl rfl rfl rfl <| E.off rfl rfl rfl rfl <| E.off rfl rfl rfl rfl <| E.off rfl rfl rfl rfl <| E.pick rfl rfl rfl <| E.nil <| X.join0 (Sub.cons (by exact leaf_t (by omega)) <| Sub.nil _) rfl rfl
   ·
    try simp only [Ya, Yb, Yc, Yd, Ye, Yf] at g53
    refine E.on rfl rfl (E.mv rfl rfl ?_)
    refine E.on rfl rfl (E.mv rfl rfl ?_)
    refine E.on rfl rfl (E.min2 rfl rfl rfl ?_)
    refine E.on rfl rfl (E.fld (o := 2) (sz := 0) rfl Try.underlying24 rfl rfl (by kernel_rfl) rfl ?_)
    refine E.on rfl rfl (E.load rfl Try.underlying3 rfl (hM.bcell 0 rfl rfl) rfl ?_)
    refine E.on rfl rfl (E.mul rfl rfl (by omega) rfl ?_)
    refine E.on rfl rfl (E.fld (o := 2) (sz := 0) rfl Try.underlying24 rfl rfl (by kernel_rfl) rfl ?_)
    refine E.on rfl rfl (E.load rfl Try.underlying3 rfl (hM.bcell 0 rfl rfl) rfl ?_)
    refine E.on rfl rfl (E.mul rfl rfl (by omega) rfl ?_)
    refine E.on rfl rfl (E.bin rfl rfl rfl rfl ?_)
    refine E.pick rfl rfl rfl <| E.nil <| X.join0 (Sub.cons (by exact leaf_d (by omega)) <| Sub.nil _) rfl rfl
  refine C.cond' rfl (fun hC1 => ?_) (fun hC1 => ?_)
  ·
   refine C.seq <| C.region <| E.asg rfl rfl <| E.nil <| X.next <| C.ret <| X.retT <| ret1 rfl rfl ?_
   exact ⟨by congr 1; exact (decide_eq_false (fun h => by have h' := htri.1 h; omega)).symm, hM.toExt⟩
  ·
   refine C.skip <| X.next <| ?_

   refine C.chainE [] rfl [(6, .bool (decide (8 * max uv (-uv) ≤ uu + vv ∧ 0 < (r.x - c.x) * (d.y - c.y) - (r.y - c.y) * (d.x - c.x))))] ?_ ?_
   ·
    refine C.region <| E.mv rfl rfl <| E.mv rfl rfl <| ?_
    refine E.neg rfl (IntWalk.i64_in _ (by omega)) rfl ?_
    rw [Int.zero_sub]
    refine E.max2 rfl rfl rfl <| ?_
    refine E.mul rfl rfl (by omega) rfl ?_
    refine E.mv rfl rfl <| E.mv rfl rfl <| ?_
    refine E.add rfl rfl (by omega) rfl ?_
    refine E.bin rfl rfl rfl rfl <| E.mv rfl rfl <| ?_
    refine E.split 74 rfl (fun g74 => ?_) (fun g74 => ?_)
    ·
     try simp only [Ya, Yb, Yc, Yd, Ye, Yf] at g74
     refine E.on rfl rfl (E.fld (o := 0) (sz := 0) rfl Try.underlying64 rfl rfl (by kernel_rfl) rfl ?_)
     refine E.on rfl rfl (E.load rfl Try.underlying3 rfl (hM.bcell 3 rfl rfl) rfl ?_)
     refine E.on rfl rfl (E.fld (o := 1) (sz := 0) rfl Try.underlying64 rfl rfl (by kernel_rfl) rfl ?_)
     refine E.on rfl rfl (E.load rfl Try.underlying3 rfl (hM.bcell 4 rfl rfl) rfl ?_)
     refine E.on rfl rfl (E.mul rfl rfl (by omega) rfl ?_)
     refine E.on rfl rfl (E.fld (o := 1) (sz := 0) rfl Try.underlying64 rfl rfl (by kernel_rfl) rfl ?_)
     refine E.on rfl rfl (E.load rfl Try.underlying3 rfl (hM.bcell 3 rfl rfl) rfl ?_)
     refine E.on rfl rfl (E.fld (o := 0) (sz := 0) rfl Try.underlying64 rfl rfl (by kernel_rfl) rfl ?_)
     refine E.on rfl rfl (E.load rfl Try.underlying3 rfl (hM.bcell 4 rfl rfl) rfl ?_)
     refine E.on rfl rfl (E.mul rfl rfl (by omega) rfl ?_)
     refine E.on rfl rfl (E.sub' rfl rfl (by omega) rfl ?_)
     refine E.on rfl rfl (E.bin rfl rfl rfl rfl ?_)
     refine E.pick rfl rfl rfl <| E.asg rfl rfl <| E.nil <| X.join0 (Sub.cons (by exact leaf_d (by omega)) <| Sub.nil _) rfl rfl
    ·
     try simp only [Ya, Yb, Yc, Yd, Ye, Yf] at g74
     refine E.off rfl rfl rfl rfl <| E.off rfl rfl rfl rfl <| E.off rfl rfl rfl rfl <| E.off rfl rfl rfl rfl <| E.off rfl rfl rfl rfl <| E.off rfl rfl rfl rfl <| E.off rfl rfl rfl rfl <| E.off rfl rfl rfl rfl <| E.off rfl rfl rfl rfl <| E.off rfl rfl rfl rfl <| E.off rfl rfl rfl rfl <| E.off rfl rfl rfl rfl <| E.pick rfl rfl rfl <| E.asg rfl rfl <| E.nil <| X.join0 (Sub.cons (by exact leaf_f (by omega)) <| Sub.nil _) rfl rfl
   refine C.ret <| ret1 rfl rfl ?_
   exact ⟨by congr 1; exact decide_eq_decide.2 ⟨fun h => htri.2 ⟨by omega, by omega, by omega, h.1, h.2⟩, fun h => (htri.1 h).2.2.2⟩, hM.toExt⟩
end Go.Proofs.Ytbinlkobmlebpaa
namespace Go.Proofs.Ytbinlkobmlebpaa
open Go.RowKit Sym
def okSize (W Ht : Int) : Prop := 1 ≤ W ∧ W ≤ 4096 ∧ 1 ≤ Ht ∧ Ht ≤ 4096 ∧ W * Ht ≤ 4194304
instance (W Ht : Int) : Decidable (okSize W Ht) := by unfold okSize; exact inferInstance
def okMat (W Ht : Int) (n : Nat) : Prop := okSize W Ht ∧ (n : Int) = W * Ht
instance (W Ht : Int) (n : Nat) : Decidable (okMat W Ht n) := by unfold okMat; exact inferInstance
theorem mul_small {a b : Int} (h1 : 1 ≤ a) (h2 : a ≤ 4096) (h3 : 1 ≤ b) (h4 : b ≤ 4096) : 0 ≤ a * b ∧ a * b ≤ 16777216 :=
 ⟨Int.mul_nonneg (by omega) (by omega), by have := Int.mul_le_mul h2 h4 (by omega) (by omega); omega⟩
abbrev mat (W Ht : Int) (vd : Value) : Value := .agg #[i64 W, i64 Ht, vd]
theorem possible_ret (W Ht : Int) (w : World) :
  Ret Try.prog 69 #[i64 W, i64 Ht] w fun v w' => v = .bool (decide (okSize W Ht)) ∧ w = w' := by
 refine enter Try.func69 rfl (by kernel_rfl) Try.ntmps69 rfl ?_
 refine C.seq <| C.region <| E.asg rfl rfl <| E.nil <| X.next <| C.seq <| C.region <| E.mv rfl rfl <| E.bin rfl rfl rfl rfl <| E.mv rfl rfl <| ?_
 refine E.split 7 rfl (fun g7 => ?_) (fun g7 => ?_)
 case' refine_2 =>
  refine E.off rfl rfl rfl rfl <| E.off rfl rfl rfl rfl <| E.pick rfl rfl rfl <| E.mv rfl rfl <| E.off rfl rfl rfl rfl <| E.off rfl rfl rfl rfl <| E.pick rfl rfl rfl <| E.mv rfl rfl <| E.off rfl rfl rfl rfl <| E.off rfl rfl rfl rfl <| E.pick rfl rfl rfl <| E.mv rfl rfl <| E.off rfl rfl rfl rfl <| E.off rfl rfl rfl rfl <| E.off rfl rfl rfl rfl <| E.off rfl rfl rfl rfl <| E.pick rfl rfl rfl <| E.asg rfl rfl <| E.nil <| X.next <| C.ret <| ret1 rfl rfl ?_
  have := of_decide_eq_false g7
  exact ⟨by rw [decide_eq_false]; unfold okSize; omega, rfl⟩
 have h7 := of_decide_eq_true g7
 refine E.on rfl rfl (E.mv rfl rfl ?_)
 refine E.on rfl rfl (E.bin rfl rfl rfl rfl ?_)
 refine E.pick rfl rfl rfl <| E.mv rfl rfl <| ?_
 refine E.split 11 rfl (fun g11 => ?_) (fun g11 => ?_)
 case' refine_2 =>
  refine E.off rfl rfl rfl rfl <| E.off rfl rfl rfl rfl <| E.pick rfl rfl rfl <| E.mv rfl rfl <| E.off rfl rfl rfl rfl <| E.off rfl rfl rfl rfl <| E.pick rfl rfl rfl <| E.mv rfl rfl <| E.off rfl rfl rfl rfl <| E.off rfl rfl rfl rfl <| E.off rfl rfl rfl rfl <| E.off rfl rfl rfl rfl <| E.pick rfl rfl rfl <| E.asg rfl rfl <| E.nil <| X.next <| C.ret <| ret1 rfl rfl ?_
  have := of_decide_eq_false g11
  exact ⟨by rw [decide_eq_false]; unfold okSize; omega, rfl⟩
 have h11 := of_decide_eq_true g11
 refine E.on rfl rfl (E.mv rfl rfl ?_)
 refine E.on rfl rfl (E.bin rfl rfl rfl rfl ?_)
 refine E.pick rfl rfl rfl <| E.mv rfl rfl <| ?_
 refine E.split 15 rfl (fun g15 => ?_) (fun g15 => ?_)
 case' refine_2 =>
  refine E.off rfl rfl rfl rfl <| E.off rfl rfl rfl rfl <| E.pick rfl rfl rfl <| E.mv rfl rfl <| E.off rfl rfl rfl rfl <| E.off rfl rfl rfl rfl <| E.off rfl rfl rfl rfl <| E.off rfl rfl rfl rfl <| E.pick rfl rfl rfl <| E.asg rfl rfl <| E.nil <| X.next <| C.ret <| ret1 rfl rfl ?_
  have := of_decide_eq_false g15
  exact ⟨by rw [decide_eq_false]; unfold okSize; omega, rfl⟩
 have h15 := of_decide_eq_true g15
 refine E.on rfl rfl (E.mv rfl rfl ?_)
 refine E.on rfl rfl (E.bin rfl rfl rfl rfl ?_)
 refine E.pick rfl rfl rfl <| E.mv rfl rfl <| ?_
 refine E.split 19 rfl (fun g19 => ?_) (fun g19 => ?_)
 case' refine_2 =>
  refine E.off rfl rfl rfl rfl <| E.off rfl rfl rfl rfl <| E.off rfl rfl rfl rfl <| E.off rfl rfl rfl rfl <| E.pick rfl rfl rfl <| E.asg rfl rfl <| E.nil <| X.next <| C.ret <| ret1 rfl rfl ?_
  have := of_decide_eq_false g19
  exact ⟨by rw [decide_eq_false]; unfold okSize; omega, rfl⟩
 have h19 := of_decide_eq_true g19
 have hm := mul_small (a := W) (b := Ht) (by omega) (by omega) (by omega) (by omega)
 refine E.on rfl rfl (E.mv rfl rfl ?_)
 refine E.on rfl rfl (E.mv rfl rfl ?_)
 refine E.on rfl rfl (E.mul rfl rfl (by omega) rfl ?_)
 refine E.on rfl rfl (E.bin rfl rfl rfl rfl ?_)
 refine E.pick rfl rfl rfl <| E.asg rfl rfl <| E.nil <| X.next <| C.ret <| ret1 rfl rfl ?_
 exact ⟨congrArg Value.bool (decide_eq_decide.2 (by unfold okSize; omega)), rfl⟩
theorem Check_ret (W Ht : Int) (vd : Value) (n : Nat) (w : World) (hv : ∃ a cap, vd = .slice a n cap) :
    Ret Try.prog 42 #[mat W Ht vd] w fun v w' => v = i64 (if okMat W Ht n then 0 else 1) ∧ Ext w w' := by
  refine enter Try.func42 rfl (by kernel_rfl) Try.ntmps42 rfl ?_
  refine C.seq <| C.region <| ?_
  refine E.boxB (cs := [i64 W, i64 Ht, vd]) rfl rfl rfl ?_
  intro w1 b1 x1 _
  refine E.asg rfl rfl <| E.nil <| X.next <| C.seq <| C.seq <| C.region <| ?_
  refine E.fld (o := 0) (sz := 0) rfl Try.underlying37 rfl rfl (by kernel_rfl) rfl ?_
  refine E.load rfl Try.underlying3 rfl (b1.cell 0) rfl ?_
  refine E.fld (o := 1) (sz := 0) rfl Try.underlying37 rfl rfl (by kernel_rfl) rfl ?_
  refine E.load rfl Try.underlying3 rfl (b1.cell 1) rfl ?_
  refine E.call rfl rfl (possible_ret W Ht _) ?_
  rintro _ _ ⟨rfl, rfl⟩
  refine E.not rfl rfl <| E.mv rfl rfl <| ?_
  refine E.split 9 rfl (fun g9 => ?_) (fun g9 => ?_)
  · refine E.off rfl rfl rfl rfl <| E.off rfl rfl rfl rfl <| E.off rfl rfl rfl rfl <| E.off rfl rfl rfl rfl <| E.off rfl rfl rfl rfl <| E.off rfl rfl rfl rfl <| E.off rfl rfl rfl rfl <| E.off rfl rfl rfl rfl <| E.off rfl rfl rfl rfl <| E.pick rfl rfl rfl <| E.nil <| X.next <| C.condT rfl <| C.seq <| C.region <| E.asg rfl rfl <| E.nil <| X.next <| C.ret <| X.retT <| ret1 rfl rfl ?_
    have hno : ¬ okSize W Ht := by simpa using g9
    exact ⟨by rw [if_neg (fun h => hno h.1)], x1⟩
  have hok : okSize W Ht := by simpa using g9
  have hm := mul_small hok.1 hok.2.1 hok.2.2.1 hok.2.2.2.1
  refine E.on rfl rfl (E.fld (o := 2) (sz := 0) rfl Try.underlying37 rfl rfl (by kernel_rfl) rfl ?_)
  refine E.on rfl rfl (E.load rfl Try.underlying35 rfl (b1.cell 2) rfl ?_)
  refine E.on rfl rfl (E.lenv rfl hv Try.underlying35 rfl ?_)
  refine E.on rfl rfl (E.fld (o := 0) (sz := 0) rfl Try.underlying37 rfl rfl (by kernel_rfl) rfl ?_)
  refine E.on rfl rfl (E.load rfl Try.underlying3 rfl (b1.cell 0) rfl ?_)
  refine E.on rfl rfl (E.fld (o := 1) (sz := 0) rfl Try.underlying37 rfl rfl (by kernel_rfl) rfl ?_)
  refine E.on rfl rfl (E.load rfl Try.underlying3 rfl (b1.cell 1) rfl ?_)
  refine E.on rfl rfl (E.mul rfl rfl (by omega) rfl ?_)
  refine E.on rfl rfl (E.bin rfl rfl rfl rfl ?_)
  refine E.pick rfl rfl rfl <| E.nil <| X.next <| ?_
  refine C.cond' rfl (fun hc => ?_) (fun hc => ?_)
  ·
    refine C.seq <| C.region <| E.asg rfl rfl <| E.nil <| X.next <| C.ret <| X.retT <| ret1 rfl rfl ?_
    exact ⟨by rw [if_neg (fun h => hc h.2)], x1⟩
  ·
    refine C.skip <| X.next <| C.seq <| C.region <| E.asg rfl rfl <| E.nil <| X.next <| C.ret <| ret1 rfl rfl ?_
    exact ⟨by rw [if_pos ⟨hok, by omega⟩], x1⟩
end Go.Proofs.Ytbinlkobmlebpaa
namespace Go.Proofs.Ytbinlkobmlebpaa
open Go.RowKit Sym Go.ChangeShapes Go.WideShapes Go.ChangeAt
set_option maxRecDepth 100000
open Fi
theorem one_int {W : World} {c : Value} (h : Trd Try.prog W 3 [c]) : ∃ n : Int, c = i64 n := by
 obtain ⟨n, e, _⟩ := h.int Try.underlying3
 exact ⟨n, by simpa using e⟩
theorem arg_ints {W : World} {r : Reach} {b0 : Nat} {v : Value} (hv : Value.okWide Try.prog W r b0 45 v) (h : Trd Try.prog W 45 v.cells.toList) : ∃ l : List Int, RdL i64 W v l := by
 rw [arg_slice Try.underlying45 hv] at h
 obtain ⟨v', l, e, rd, _⟩ := h.sliceL (enc := i64) (R := fun _ => True) Try.underlying45 (by kernel_rfl) (fun c hc => by
  obtain ⟨b, hb, _⟩ := hc.int Try.underlying3
  exact ⟨b, by simpa using hb.symm, trivial⟩)
 obtain rfl : v = v' := by simpa using e
 exact ⟨l, rd⟩
theorem arg_i3 {W : World} {r : Reach} {b0 : Nat} {v : Value} (hv : Value.okWide Try.prog W r b0 31 v) (h : Trd Try.prog W 31 v.cells.toList) : ∃ x y z : Int, v = .agg #[i64 x, i64 y, i64 z] := by
 obtain ⟨cs, rfl⟩ := agg_array Try.underlying31 hv
 rw [agg_cells] at h
 obtain ⟨hl, hf⟩ := h.array Try.underlying31
 obtain ⟨a0, t0, rfl, hl0⟩ := split1 (n := 2) hl
 obtain ⟨a1, t1, rfl, hl1⟩ := split1 (n := 1) hl0
 obtain ⟨a2, t2, rfl, hl2⟩ := split1 (n := 0) hl1
 obtain rfl := List.length_eq_zero_iff.1 hl2
 obtain ⟨n0, rfl⟩ := one_int (show Trd Try.prog W 3 [a0] from hf 0 (by decide))
 obtain ⟨n1, rfl⟩ := one_int (show Trd Try.prog W 3 [a1] from hf 1 (by decide))
 obtain ⟨n2, rfl⟩ := one_int (show Trd Try.prog W 3 [a2] from hf 2 (by decide))
 exact ⟨n0, n1, n2, rfl⟩
end Go.Proofs.Ytbinlkobmlebpaa
