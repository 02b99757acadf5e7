/- finder: the reference's lines and patterns. -/
import Derived.Test.YtbinlkobmlebpaaC0
import Derived.Test.YtbinlkobmlebpaaC11
import Derived.Test.YtbinlkobmlebpaaFdFC
import Derived.Test.YtbinlkobmlebpaaFd18C
set_option linter.unusedSimpArgs false
set_option linter.unusedVariables false
namespace Go.Proofs.Ytbinlkobmlebpaa
open Go.RowKit Sym
open Fi
theorem geD {es : List Int} {k : Nat} (h : k < es.length) : es[k] = es.getD k 0 := by rw [List.getD_eq_getElem?_getD, List.getElem?_eq_getElem h]; rfl
theorem size_ret (W H : Nat) (vd : Value) (col : Bool) (w : World) (h1 : vd.oneCell' = true) :
  Ret Try.prog 111 #[mat W H vd, .bool col] w fun v w' => v = i64 ((lnn W H col : Nat) : Int) ∧ Ext w w' := by
 have hM := M.start w
 refine enter Try.func111 rfl (by kernel_rfl) Try.ntmps111 rfl ?_
 refine C.seq <| C.region <| ?_
 refine E.boxM (cs := [i64 W, i64 H, vd]) hM rfl (by cases vd <;> simp_all [Value.cells, Value.oneCell']) rfl ?_
 intro b2 w0 hM
 try dsimp only [Za, Zb, Zc, Zd, repl] at hM
 refine E.asg rfl rfl <| E.nil <| X.next <| C.seq <| C.seq <| C.region <| E.mv rfl rfl <| E.nil <| X.next <| ?_
 refine C.cond rfl (fun hC0 => ?_) (fun hC0 => ?_)
 ·
  refine C.seq <| C.region <| ?_
  refine E.fld (o := 1) (sz := 0) rfl Try.underlying37 rfl rfl (by kernel_rfl) rfl ?_
  refine E.load rfl Try.underlying3 rfl (hM.bcell 0 rfl rfl) rfl ?_
  refine E.asg rfl rfl <| E.nil <| X.next <| C.ret <| X.retT <| ret1 rfl rfl ?_
  exact ⟨by rw [hC0]; rfl, hM.toExt⟩
 ·
  refine C.skip <| X.next <| C.seq <| C.region <| ?_
  refine E.fld (o := 0) (sz := 0) rfl Try.underlying37 rfl rfl (by kernel_rfl) rfl ?_
  refine E.load rfl Try.underlying3 rfl (hM.bcell 0 rfl rfl) rfl ?_
  refine E.asg rfl rfl <| E.nil <| X.next <| C.ret <| ret1 rfl rfl ?_
  exact ⟨by rw [hC0]; rfl, hM.toExt⟩
theorem dark_ret (vd : Value) (dk : List Bool) (W H k n : Nat) (col : Bool) (w : World) (hr : RdL Value.bool w vd dk) (hW : 1 ≤ W ∧ W ≤ 4096) (hH : 1 ≤ H ∧ H ≤ 4096) (hn : dk.length = W * H) (hn2 : dk.length ≤ 4194304) (hk : k < lnk W H col) (hl : n < lnn W H col) :
  Ret Try.prog 112 #[mat W H vd, .bool col, i64 k, i64 n] w fun v w' => v = .bool (ln dk W col k n) ∧ Ext w w' := by
 have hM := M.start w
 refine enter Try.func112 rfl (by kernel_rfl) Try.ntmps112 rfl ?_
 refine C.seq <| C.region <| ?_
 refine E.boxM (cs := [i64 W, i64 H, vd]) hM rfl (by obtain ⟨a, cap, rfl, _⟩ := hr; rfl) rfl ?_
 intro b4 w0 hM
 try dsimp only [Za, Zb, Zc, Zd, repl] at hM
 refine E.asg rfl rfl <| E.nil <| X.next <| C.seq <| C.seq <| C.region <| E.mv rfl rfl <| E.nil <| X.next <| ?_
 refine C.cond rfl (fun hC0 => ?_) (fun hC0 => ?_)
 ·
  subst hC0
  have hk' : k < W := hk
  have hl' : n < H := hl
  have hin := ln_in hn hl' hk'
  refine C.seq <| C.region <| ?_
  refine E.fld (o := 2) (sz := 0) rfl Try.underlying37 rfl rfl (by kernel_rfl) rfl ?_
  refine E.load rfl Try.underlying35 rfl (hM.bcell 0 rfl rfl) rfl ?_
  refine E.mv rfl rfl <| ?_
  refine E.fld (o := 0) (sz := 0) rfl Try.underlying37 rfl rfl (by kernel_rfl) rfl ?_
  refine E.load rfl Try.underlying3 rfl (hM.bcell 0 rfl rfl) rfl ?_
  refine E.mulN (a := n) (b := W) rfl rfl (by omega) rfl ?_
  refine E.mv rfl rfl <| ?_
  refine E.addN (a := n * W) (b := k) rfl rfl (by omega) rfl ?_
  refine E.get (k := n * W + k) rfl rfl (hM.arg0 hr) rfl hin Try.underlying35 (by kernel_rfl) Try.underlying4 rfl rfl rfl ?_
  refine E.asg rfl rfl <| E.nil <| X.next <| C.ret <| X.retT <| ret1 rfl rfl ?_
  exact ⟨by rw [gb hin, Nat.add_comm]; rfl, hM.toExt⟩
 ·
  subst hC0
  have hk' : k < H := hk
  have hl' : n < W := hl
  have hin := ln_in hn hk' hl'
  refine C.skip <| X.next <| C.seq <| C.region <| ?_
  refine E.fld (o := 2) (sz := 0) rfl Try.underlying37 rfl rfl (by kernel_rfl) rfl ?_
  refine E.load rfl Try.underlying35 rfl (hM.bcell 0 rfl rfl) rfl ?_
  refine E.mv rfl rfl <| ?_
  refine E.fld (o := 0) (sz := 0) rfl Try.underlying37 rfl rfl (by kernel_rfl) rfl ?_
  refine E.load rfl Try.underlying3 rfl (hM.bcell 0 rfl rfl) rfl ?_
  refine E.mulN (a := k) (b := W) rfl rfl (by omega) rfl ?_
  refine E.mv rfl rfl <| ?_
  refine E.addN (a := k * W) (b := n) rfl rfl (by omega) rfl ?_
  refine E.get (k := k * W + n) rfl rfl (hM.arg0 hr) rfl hin Try.underlying35 (by kernel_rfl) Try.underlying4 rfl rfl rfl ?_
  refine E.asg rfl rfl <| E.nil <| X.next <| C.ret <| ret1 rfl rfl ?_
  exact ⟨by rw [gb hin]; show _ = Value.bool (dk.getD (k * W + n * 1) false); rw [Nat.mul_one], hM.toExt⟩
set_option maxHeartbeats 1000000 in
theorem runs_ret (vd : Value) (dk : List Bool) (W H k : Nat) (col : Bool) (w : World) (hr : RdL Value.bool w vd dk) (hW : 1 ≤ W ∧ W ≤ 4096) (hH : 1 ≤ H ∧ H ≤ 4096) (hn : dk.length = W * H) (hn2 : dk.length ≤ 4194304) (hk : k < lnk W H col) :
  Ret Try.prog 103 #[mat W H vd, .bool col, i64 k] w fun v w' => M w Nn w' [Rg.sl i64 3 v (eds (ln dk W col k) (lnn W H col))] := by
 have hM := M.start w
 refine enter Try.func103 rfl (by kernel_rfl) Try.ntmps103 rfl ?_
 refine C.seq <| C.region <| ?_
 refine E.boxM (cs := [i64 W, i64 H, vd]) hM rfl (by obtain ⟨a, cap, rfl, _⟩ := hr; rfl) rfl ?_
 intro b3 w0 hM
 try dsimp only [Za, Zb, Zc, Zd, repl] at hM
 refine E.asg rfl rfl <| E.nil <| X.next <| C.seq <| C.region <| E.asg rfl rfl <| E.nil <| X.next <| C.seq <| C.seq <| C.region <| E.asg rfl rfl <| E.nil <| X.next <| C.block <| ?_
 have hM := hM.nil i64 3
 have hN : lnn W H col ≤ 4096 := by unfold lnn; split <;> omega
 try dsimp only [Za, Zb, Zc, Zd, repl] at hM

 refine C.loop2 [(1, _), (2, _), (3, _)] rfl (fun (n : Nat) (vl : Value) => [(7, vl), (8, i64 n)]) (fun (n : Nat) (vl : Value) w' => M w (Nn) w' [Rg.blk b3 37 [i64 W, i64 H, vd], Rg.sl i64 3 vl (edg (ln dk W col k) n)] ∧ n ≤ lnn W H col) (fun (n : Nat) (vl : Value) => lnn W H col - n) 0 nls ?_ ?_ ?_
 · exact Sub.cons rfl <| Sub.cons rfl <| Sub.nil _
 · exact ⟨hM, Nat.zero_le _⟩
 rintro n vl w1 ⟨hM, hnl⟩
 refine C.seq <| C.seq <| C.region <| E.mv rfl rfl <| ?_
 refine E.loadA (cs := [i64 W, i64 H, vd]) rfl Try.underlying37 rfl (by kernel_rfl) (hM.bat 0 rfl) rfl ?_
 refine E.mv rfl rfl <| ?_
 refine E.call rfl rfl (size_ret W H vd col _ (by obtain ⟨a, cap, rfl, _⟩ := hr; rfl)) ?_
 rintro _ w2 ⟨rfl, x2⟩
 have hM := hM.ext x2
 try dsimp only [Za, Zb, Zc, Zd, repl] at hM
 refine E.bin rfl rfl rfl rfl <| E.nil <| X.next <| ?_
 refine C.cond' rfl (fun hC0 => ?_) (fun hC0 => ?_)
 ·
  have hn' : n < lnn W H col := by omega
  have hel := edg_len (ln dk W col k) n
  refine C.skip <| X.next <| ?_

  refine C.cut1 [(1, _), (2, _), (3, _), (8, _)] rfl (fun (vl : Value) => [(7, vl)]) (fun (vl : Value) w' => M w (Nn) w' [Rg.blk b3 37 [i64 W, i64 H, vd], Rg.sl i64 3 vl (edg (ln dk W col k) (n + 1))]) ?_ ?_
  ·
   refine C.block <| ?_

   refine C.chainQ [(1, _), (2, _), (3, _), (7, _), (8, _)] rfl [(31, .bool (decide (n = 0 ∨ ln dk W col k n ≠ ln dk W col k (n - 1))))] ?_ ?_
   ·
    refine C.drawn (by kernel_rfl) (by kernel_rfl) <| Q.mv rfl rfl <| Q.bin rfl rfl rfl rfl <| Q.mv rfl rfl <| ?_
    refine Q.split 18 rfl (fun g18 => ?_) (fun g18 => ?_)
    ·
     try simp only [Ya, Yb, Yc, Yd, Ye, Yf] at g18
     refine Q.off rfl rfl rfl rfl <| Q.off rfl rfl rfl rfl <| Q.off rfl rfl rfl rfl <| Q.off rfl rfl rfl rfl <| Q.off rfl rfl rfl rfl <| Q.off rfl rfl rfl rfl <| Q.off rfl rfl rfl rfl <| Q.off rfl rfl rfl rfl <| Q.off rfl rfl rfl rfl <| Q.off rfl rfl rfl rfl <| Q.off rfl rfl rfl rfl <| Q.off rfl rfl rfl rfl <| Q.pick rfl rfl rfl <| Q.nil <| fun w3 hx3 => ?_
     refine X.join0 (Sub.cons (look_eq rfl (congrArg Value.bool (by exact (decide_eq_true (by omega)).symm))) <| Sub.nil _) rfl hx3
    ·
     try simp only [Ya, Yb, Yc, Yd, Ye, Yf] at g18
     refine Q.on rfl rfl (Q.loadA (cs := [i64 W, i64 H, vd]) rfl Try.underlying37 rfl (by kernel_rfl) (hM.bat 0 rfl) rfl ?_)
     refine Q.on rfl rfl (Q.mv rfl rfl ?_)
     refine Q.on rfl rfl (Q.mv rfl rfl ?_)
     refine Q.on rfl rfl (Q.mv rfl rfl ?_)
     refine Q.on rfl rfl (Q.call (v := .bool (ln dk W col k n)) rfl rfl (fun w' hw' => dark_ret vd dk W H k n col w' ((hM.arg0 hr).ext hw') hW hH hn hn2 hk hn') ?_)
     refine Q.on rfl rfl (Q.loadA (cs := [i64 W, i64 H, vd]) rfl Try.underlying37 rfl (by kernel_rfl) (hM.bat 0 rfl) rfl ?_)
     refine Q.on rfl rfl (Q.mv rfl rfl ?_)
     refine Q.on rfl rfl (Q.mv rfl rfl ?_)
     refine Q.on rfl rfl (Q.mv rfl rfl ?_)
     refine Q.on rfl rfl (Q.subN (a := n) (b := 1) rfl rfl (by omega) rfl ?_)
     refine Q.on rfl rfl (Q.call (v := .bool (ln dk W col k (n - 1))) rfl rfl (fun w' hw' => dark_ret vd dk W H k (n - 1) col w' ((hM.arg0 hr).ext hw') hW hH hn hn2 hk (by omega)) ?_)
     refine Q.on rfl rfl (Q.neb rfl rfl Try.underlying4 rfl ?_)
     refine Q.pick rfl rfl rfl <| Q.nil <| fun w4 hx4 => ?_
     refine X.join0 (Sub.cons (look_eq rfl (congrArg Value.bool (by (rw [Bool.eq_iff_iff, decide_eq_true_iff]; exact ⟨fun a => .inr (by simpa using a), fun a => by simpa using a.resolve_left (by omega)⟩)))) <| Sub.nil _) rfl hx4
   intro w5 hx5
   have hM := hM.ext hx5
   refine C.cond' rfl (fun hC1 => ?_) (fun hC1 => ?_)
   ·
    refine C.region <| E.mv rfl rfl <| E.mv rfl rfl <| ?_
    refine E.pushM 1 (n : Int) hM rfl rfl rfl Try.underlying45 elem_Tint rfl (by omega) (by omega) (by simp) rfl rfl ?_
    intro v35 u35 w6 hM
    try dsimp only [Za, Zb, Zc, Zd, repl] at hM

    refine E.asg rfl rfl <| E.nil <| X.outN <| X.join1 _ (Sub.cons rfl <| Sub.nil _) rfl (by rw [edg_t hC1]; exact hM)
   ·

    refine C.skip <| X.outN <| X.join1 vl (Sub.cons rfl <| Sub.nil _) rfl (by rw [edg_f hC1]; exact hM)
  rintro vl w7 hM
  refine C.region <| E.mv rfl rfl <| ?_
  refine E.addN (a := n) (b := 1) rfl rfl (by omega) rfl ?_

  refine E.asg rfl rfl <| E.nil <| X.again2 (n + 1) _ (Sub.cons rfl <| Sub.cons rfl <| Sub.nil _) rfl ⟨hM, by omega⟩ (by omega)
 ·
  obtain rfl : n = lnn W H col := by omega
  have hel := edg_len (ln dk W col k) (lnn W H col)
  refine C.exit <| X.exitT <| X.exitT <| X.outE <| X.next <| C.seq <| C.region <| E.mv rfl rfl <| ?_
  refine E.loadA (cs := [i64 W, i64 H, vd]) rfl Try.underlying37 rfl (by kernel_rfl) (hM.bat 0 rfl) rfl ?_
  refine E.mv rfl rfl <| ?_
  refine E.call rfl rfl (size_ret W H vd col _ (by obtain ⟨a, cap, rfl, _⟩ := hr; rfl)) ?_
  rintro _ w8 ⟨rfl, x8⟩
  have hM := hM.ext x8
  try dsimp only [Za, Zb, Zc, Zd, repl] at hM
  refine E.pushM 1 ((lnn W H col : Nat) : Int) hM rfl rfl rfl Try.underlying45 elem_Tint rfl (by omega) (by omega) (by simp) rfl rfl ?_
  intro v41 u41 w9 hM
  try dsimp only [Za, Zb, Zc, Zd, repl] at hM
  refine E.asg rfl rfl <| E.nil <| X.next <| C.ret <| ret1 rfl rfl ?_
  exact (hM.pick [1] (by decide))
set_option maxHeartbeats 2000000 in
theorem rpat_ret (vd p : Value) (dk : List Bool) (W H k i : Nat) (col kd : Bool) (w : World) (hr : RdL Value.bool w vd dk) (hW : 1 ≤ W ∧ W ≤ 4096) (hH : 1 ≤ H ∧ H ≤ 4096) (hn : dk.length = W * H) (hn2 : dk.length ≤ 4194304) (hk : k < lnk W H col) (hp : RdL i64 w p (eds (ln dk W col k) (lnn W H col))) (hi : i ≤ 5000) :
  Ret Try.prog 104 #[mat W H vd, .bool col, i64 k, p, i64 i, i64 (sd kd : Nat)] w fun v w' => v = patR (patv (eds (ln dk W col k) (lnn W H col)) ((ln dk W col k) 0) kd (shq kd) ((i : Int) - (sd kd : Nat))) ∧ Ext w w' := by
 have hM := M.start w
 refine enter Try.func104 rfl (by kernel_rfl) Try.ntmps104 rfl ?_
 refine C.seq <| C.region <| ?_
 obtain ⟨es, hes⟩ : ∃ z, z = (eds (ln dk W col k) (lnn W H col)) := ⟨_, rfl⟩
 rw [← hes] at hp
 have hsd := sd_le kd
 have hN : lnn W H col ≤ 4096 := by unfold lnn; split <;> omega
 have heb : ∀ x ∈ es, 0 ≤ x ∧ x ≤ ((lnn W H col : Nat) : Int) := by rw [hes]; exact eds_mem
 have hgb := getD_b heb (by omega)
 have hcol : ∀ i, i + 1 < es.length → ∃ e : Nat, es[i]? = some (e : Int) ∧ e < lnn W H col ∧ (ln dk W col k) e = xr ((ln dk W col k) 0) i := by rw [hes]; exact fun i h => eds_col h
 refine E.boxM (cs := [i64 W, i64 H, vd]) hM rfl (by obtain ⟨a, cap, rfl, _⟩ := hr; rfl) rfl ?_
 intro b6 w0 hM
 try dsimp only [Za, Zb, Zc, Zd, repl] at hM
 refine E.asg rfl rfl <| E.asg rfl rfl <| E.asg rfl rfl <| E.nil <| X.next <| C.seq <| ?_

 refine C.chainQ [(3, _), (4, _), (5, _)] rfl [(41, .bool (decide (¬ (sd kd ≤ i ∧ i + sd kd + 1 < es.length ∧ xr ((ln dk W col k) 0) i = true))))] ?_ ?_
 ·
  refine C.drawn (by kernel_rfl) (by kernel_rfl) <| Q.mv rfl rfl <| Q.mv rfl rfl <| Q.bin rfl rfl rfl rfl <| Q.mv rfl rfl <| ?_
  refine Q.split 22 rfl (fun g22 => ?_) (fun g22 => ?_)
  ·
   try simp only [Ya, Yb, Yc, Yd, Ye, Yf] at g22
   refine Q.off rfl rfl rfl rfl <| Q.off rfl rfl rfl rfl <| Q.off rfl rfl rfl rfl <| Q.off rfl rfl rfl rfl <| Q.off rfl rfl rfl rfl <| Q.off rfl rfl rfl rfl <| Q.off rfl rfl rfl rfl <| Q.pick rfl rfl rfl <| Q.mv rfl rfl <| Q.off rfl rfl rfl rfl <| Q.off rfl rfl rfl rfl <| Q.off rfl rfl rfl rfl <| Q.off rfl rfl rfl rfl <| Q.off rfl rfl rfl rfl <| Q.off rfl rfl rfl rfl <| Q.off rfl rfl rfl rfl <| Q.off rfl rfl rfl rfl <| Q.off rfl rfl rfl rfl <| Q.pick rfl rfl rfl <| Q.nil <| fun w1 hx1 => ?_
   refine X.join0 (Sub.cons (look_eq rfl (congrArg Value.bool (by exact (decide_eq_true (by omega)).symm))) <| Sub.nil _) rfl hx1
  ·
   try simp only [Ya, Yb, Yc, Yd, Ye, Yf] at g22
   refine Q.on rfl rfl (Q.mv rfl rfl ?_)
   refine Q.on rfl rfl (Q.mv rfl rfl ?_)
   refine Q.on rfl rfl (Q.addN (a := i) (b := sd kd) rfl rfl (by omega) rfl ?_)
   refine Q.on rfl rfl (Q.addN (a := i + sd kd) (b := 1) rfl rfl (by omega) rfl ?_)
   refine Q.on rfl rfl (Q.mv rfl rfl ?_)
   refine Q.on rfl rfl (Q.lenv rfl (Rd.shape (hM.arg0 hp)) Try.underlying45 rfl ?_)
   refine Q.on rfl rfl (Q.bin rfl rfl rfl rfl ?_)
   refine Q.pick rfl rfl rfl <| Q.mv rfl rfl <| ?_
   refine Q.split 31 rfl (fun g31 => ?_) (fun g31 => ?_)
   ·
    try simp only [Ya, Yb, Yc, Yd, Ye, Yf] at g31
    refine Q.off rfl rfl rfl rfl <| Q.off rfl rfl rfl rfl <| Q.off rfl rfl rfl rfl <| Q.off rfl rfl rfl rfl <| Q.off rfl rfl rfl rfl <| Q.off rfl rfl rfl rfl <| Q.off rfl rfl rfl rfl <| Q.off rfl rfl rfl rfl <| Q.off rfl rfl rfl rfl <| Q.pick rfl rfl rfl <| Q.nil <| fun w2 hx2 => ?_
    refine X.join0 (Sub.cons (look_eq rfl (congrArg Value.bool (by exact (decide_eq_true (by omega)).symm))) <| Sub.nil _) rfl hx2
   ·
    try simp only [Ya, Yb, Yc, Yd, Ye, Yf] at g31
    have hi' : i < es.length := by omega
    obtain ⟨e, he1, he2, he3⟩ := hcol i (by omega)
    have he4 : es[i] = (e : Int) := by rw [List.getElem?_eq_getElem hi'] at he1; exact Option.some.inj he1
    refine Q.on rfl rfl (Q.loadA (cs := [i64 W, i64 H, vd]) rfl Try.underlying37 rfl (by kernel_rfl) (hM.bat 0 rfl) rfl ?_)
    refine Q.on rfl rfl (Q.mv rfl rfl ?_)
    refine Q.on rfl rfl (Q.mv rfl rfl ?_)
    refine Q.on rfl rfl (Q.mv rfl rfl ?_)
    refine Q.on rfl rfl (Q.mv rfl rfl ?_)
    refine Q.on rfl rfl (Q.idx1 (k := i) rfl rfl (hM.arg0 hp) rfl hi' Try.underlying45 (by kernel_rfl) rfl ?_)
    refine Q.on rfl rfl (Q.load rfl Try.underlying3 rfl ((hM.arg0 hp).cellA rfl hi') rfl ?_)
    rw [he4]
    refine Q.on rfl rfl (Q.call (v := .bool (ln dk W col k e)) rfl rfl (fun w' hw' => dark_ret vd dk W H k e col w' ((hM.arg0 hr).ext hw') hW hH hn hn2 hk he2) ?_)
    refine Q.on rfl rfl (Q.not rfl rfl ?_)
    refine Q.pick rfl rfl rfl <| Q.nil <| fun w3 hx3 => ?_
    refine X.join0 (Sub.cons (look_eq rfl (congrArg Value.bool (by (rw [he3, Bool.eq_iff_iff, decide_eq_true_iff]; exact ⟨fun a q => by simp [q.2.2] at a, fun a => by cases hx : xr ((ln dk W col k) 0) i with | true => exact (a ⟨by omega, by omega, hx⟩).elim | false => rfl⟩)))) <| Sub.nil _) rfl hx3
 intro w4 hx4
 have hM := hM.ext hx4
 refine C.cond' rfl (fun hC0 => ?_) (fun hC0 => ?_)
 ·
  refine C.seq <| C.region <| E.asg rfl rfl <| E.asg rfl rfl <| E.asg rfl rfl <| E.nil <| X.next <| C.ret <| X.retT <| ret3 rfl rfl rfl rfl ?_
  exact ⟨by rw [← hes, patv_no]; rfl; rw [shq_len]; by_cases z1 : sd kd ≤ i; by_cases z2 : i + sd kd + 1 < es.length; exact .inr (.inr (fun q => hC0 ⟨z1, z2, (par_iff _ kd z1).2 q⟩)); exact .inr (.inl (by omega)); exact .inl (by omega), hM.toExt⟩
 ·
  obtain ⟨z1, z2, z3⟩ := Decidable.not_not.1 hC0
  obtain ⟨r, hr0⟩ : ∃ r, i = r + sd kd := ⟨i - sd kd, by omega⟩
  have hlr := shq_len kd
  obtain ⟨T, hT⟩ : ∃ T, T = es.getD (r + (shq kd).length) 0 - es.getD r 0 := ⟨_, rfl⟩
  have hg1 := hgb r
  have hg2 := hgb (r + (shq kd).length)
  refine C.skip <| X.next <| C.seq <| C.region <| E.mv rfl rfl <| E.mv rfl rfl <| E.mv rfl rfl <| ?_
  refine E.subN (a := i) (b := sd kd) rfl rfl (by omega) rfl ?_
  refine E.get (k := i - sd kd) rfl rfl (hM.arg0 hp) rfl (by omega) Try.underlying45 (by kernel_rfl) Try.underlying3 rfl rfl rfl ?_
  rw [geD (show i - sd kd < es.length by omega), show i - sd kd = r by omega]
  refine E.asg rfl rfl <| E.nil <| X.next <| C.seq <| C.region <| E.mv rfl rfl <| E.mv rfl rfl <| E.mv rfl rfl <| ?_
  refine E.addN (a := i) (b := sd kd) rfl rfl (by omega) rfl ?_
  refine E.addN (a := i + sd kd) (b := 1) rfl rfl (by omega) rfl ?_
  refine E.get (k := i + sd kd + 1) rfl rfl (hM.arg0 hp) rfl (by omega) Try.underlying45 (by kernel_rfl) Try.underlying3 rfl rfl rfl ?_
  rw [geD (show i + sd kd + 1 < es.length by omega), show i + sd kd + 1 = r + (shq kd).length by omega]
  refine E.mv rfl rfl <| ?_
  refine E.sub' rfl rfl (by omega) rfl ?_
  rw [← hT]
  refine E.asg rfl rfl <| E.nil <| X.next <| C.seq <| C.seq <| C.region <| E.mv rfl rfl <| E.mv rfl rfl <| ?_
  refine E.subN (a := i) (b := sd kd) rfl rfl (by omega) rfl ?_
  rw [show i - sd kd = r by omega]
  refine E.asg rfl rfl <| E.nil <| X.next <| C.block <| ?_

  refine C.loop1 [(3, _), (4, _), (5, _), (15, _), (16, _)] rfl (fun (q : Nat) => [(17, i64 ((r + q : Nat) : Int))]) (fun (q : Nat) w' => M w (Nn) w' [Rg.blk b6 37 [i64 W, i64 H, vd]] ∧ q ≤ 2 * sd kd + 1 ∧ ∀ j, j < q → fit1 es (shq kd) r T j) (fun (q : Nat) => 2 * sd kd + 1 - q) 0 ?_ ?_ ?_
  · exact Sub.cons rfl <| Sub.nil _
  · exact ⟨hM, Nat.zero_le _, fun j h => absurd h (Nat.not_lt_zero _)⟩
  rintro q w5 ⟨hM, hq, hft⟩
  refine C.seq <| C.seq <| C.region <| E.mv rfl rfl <| E.mv rfl rfl <| E.mv rfl rfl <| ?_
  refine E.addN (a := i) (b := sd kd) rfl rfl (by omega) rfl ?_
  refine E.bin rfl rfl rfl rfl <| E.nil <| X.next <| ?_
  refine C.cond' rfl (fun hC1 => ?_) (fun hC1 => ?_)
  ·
   have hq' : q < 2 * sd kd + 1 := by omega
   have hsv := shq_v kd hq'
   have hv13 : (shq kd).getD q 0 = 1 ∨ (shq kd).getD q 0 = 3 := by rw [hsv]; split; exact .inr rfl; exact .inl rfl
   have hmm := mul_b (a := (shq kd).getD q 0) (b := T) (A := 3) (B := 4096) (by omega) (by omega)
   have hg3 := hgb (r + q)
   have hg4 := hgb (r + q + 1)
   refine C.skip <| X.next <| C.seq <| C.block <| C.seq <| C.region <| E.asg rfl rfl <| E.nil <| X.next <| ?_

   refine C.cut0 [(3, _), (4, _), (5, _), (15, _), (16, _), (17, _)] rfl [(18, i64 ((shq kd).getD q 0))] (fun w' => M w (Nn) w' [Rg.blk b6 37 [i64 W, i64 H, vd]]) ?_ ?_
   ·

    refine C.chainE [(3, _), (4, _), (5, _), (15, _), (16, _), (17, _), (18, _)] rfl [(73, .bool (decide (q = sd kd ∧ sd kd = 2)))] ?_ ?_
    ·
     refine C.region <| E.mv rfl rfl <| E.mv rfl rfl <| E.bin rfl rfl rfl rfl <| E.mv rfl rfl <| ?_
     refine E.split 70 rfl (fun g70 => ?_) (fun g70 => ?_)
     ·
      try simp only [Ya, Yb, Yc, Yd, Ye, Yf] at g70
      refine E.on rfl rfl (E.mv rfl rfl ?_)
      refine E.on rfl rfl (E.bin rfl rfl rfl rfl ?_)
      refine E.pick rfl rfl rfl <| E.nil <| X.join0 (Sub.cons (look_eq rfl (congrArg Value.bool (by exact decide_eq_decide.2 ⟨fun a => ⟨by omega, by omega⟩, fun a => by omega⟩))) <| Sub.nil _) rfl rfl
     ·
      try simp only [Ya, Yb, Yc, Yd, Ye, Yf] at g70
      refine E.off rfl rfl rfl rfl <| E.off rfl rfl rfl rfl <| E.pick rfl rfl rfl <| E.nil <| X.join0 (Sub.cons (look_eq rfl (congrArg Value.bool (by exact (decide_eq_false (fun a => by omega)).symm))) <| Sub.nil _) rfl rfl
    refine C.cond' rfl (fun hC2 => ?_) (fun hC2 => ?_)
    ·

     refine C.region <| E.asg rfl rfl <| E.nil <| X.join0  (Sub.cons (look_eq rfl (congrArg i64 (by rw [hsv, if_pos hC2]))) <| Sub.nil _) rfl hM
    ·

     refine C.skip <| X.join0  (Sub.cons (look_eq rfl (congrArg i64 (by rw [hsv, if_neg hC2]))) <| Sub.nil _) rfl hM
   rintro  w6 hM
   refine C.seq <| C.drawn (by kernel_rfl) (by kernel_rfl) <| Q.mv rfl rfl <| Q.mv rfl rfl <| ?_
   refine Q.addN (a := r + q) (b := 1) rfl rfl (by omega) rfl ?_
   refine Q.idx1 (k := r + q + 1) rfl rfl (hM.arg0 hp) rfl (show r + q + 1 < es.length by omega) Try.underlying45 (by kernel_rfl) rfl ?_
   refine Q.load rfl Try.underlying3 rfl ((hM.arg0 hp).cellA rfl (show r + q + 1 < es.length by omega)) rfl ?_
   rw [geD (show r + q + 1 < es.length by omega)]
   refine Q.mv rfl rfl <| Q.mv rfl rfl <| ?_
   refine Q.idx1 (k := r + q) rfl rfl (hM.arg0 hp) rfl (show r + q < es.length by omega) Try.underlying45 (by kernel_rfl) rfl ?_
   refine Q.load rfl Try.underlying3 rfl ((hM.arg0 hp).cellA rfl (show r + q < es.length by omega)) rfl ?_
   rw [geD (show r + q < es.length by omega)]
   refine Q.sub' rfl rfl (by omega) rfl ?_
   refine Q.mul rfl rfl (by omega) rfl ?_
   refine Q.mv rfl rfl <| Q.mv rfl rfl <| ?_
   refine Q.mul rfl rfl (by omega) rfl ?_
   refine Q.sub' rfl rfl (by omega) rfl ?_
   refine Q.call (v := i64 (max (7 * (es.getD (r + q + 1) 0 - es.getD (r + q) 0) - (shq kd).getD q 0 * T) (-(7 * (es.getD (r + q + 1) 0 - es.getD (r + q) 0) - (shq kd).getD q 0 * T)))) rfl rfl (fun w' hw' => rabs_ret _ w' (by omega)) ?_
   refine Q.mul rfl rfl (by omega) rfl ?_
   refine Q.mv rfl rfl <| Q.bin rfl rfl rfl rfl <| Q.nil <| fun w7 hx7 => ?_
   have hM := hM.ext hx7
   refine X.next <| ?_
   refine C.cond' rfl (fun hC3 => ?_) (fun hC3 => ?_)
   ·
    refine C.seq <| C.region <| E.asg rfl rfl <| E.asg rfl rfl <| E.asg rfl rfl <| E.nil <| X.next <| C.ret <| X.retB <| X.retT <| X.retT <| X.retB <| X.retT <| ret3 rfl rfl rfl rfl ?_
    exact ⟨by rw [← hes, hr0, show (((r + sd kd : Nat) : Int) - (sd kd : Nat)) = (r : Int) by omega, patv_bad (i := q) (by omega) (fun h => by rw [← hT] at h; unfold fit1 at h; omega)]; rfl, hM.toExt⟩
   ·
    refine C.skip <| X.outN <| X.next <| C.region <| E.mv rfl rfl <| ?_
    refine E.addN (a := r + q) (b := 1) rfl rfl (by omega) rfl ?_

    refine E.asg rfl rfl <| E.nil <| X.again1 (q + 1) (Sub.cons rfl <| Sub.nil _) rfl ⟨hM, by omega, fun j hj => if e : j = q then by subst e; unfold fit1; omega else hft j (by omega)⟩ (by omega)
  ·
   obtain rfl : q = 2 * sd kd + 1 := by omega
   have hpar := (par_iff ((ln dk W col k) 0) kd z1).1 z3
   refine C.exit <| X.exitT <| X.exitT <| X.outE <| X.next <| C.seq <| C.region <| E.mv rfl rfl <| E.mv rfl rfl <| E.asg rfl rfl <| E.asg rfl rfl <| E.asg rfl rfl <| E.nil <| X.next <| C.ret <| ret3 rfl rfl rfl rfl ?_
   exact ⟨by rw [← hes]; rw [hr0] at hpar ⊢; rw [show (((r + sd kd : Nat) : Int) - (sd kd : Nat)) = (r : Int) by omega] at hpar ⊢; rw [patv_ok (fun h => by rcases h with h | h | h; omega; omega; exact h hpar) (fun j hj => by rw [← hT]; exact hft j (by omega)), ← hT]; rfl, hM.toExt⟩
end Go.Proofs.Ytbinlkobmlebpaa
