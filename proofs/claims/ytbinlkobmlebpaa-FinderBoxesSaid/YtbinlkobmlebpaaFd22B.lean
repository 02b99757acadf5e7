/- finder: the reference's boxes; FinderBoxes. -/
import Derived.Test.YtbinlkobmlebpaaB0
import Derived.Test.YtbinlkobmlebpaaB20
import Derived.Test.YtbinlkobmlebpaaFd21B
import Derived.Test.YtbinlkobmlebpaaRLabelB
set_option linter.unusedSimpArgs false
set_option linter.unusedVariables false
namespace Go.Proofs.Ytbinlkobmlebpaa
open Go.RowKit Sym Uf
open Fi
set_option maxHeartbeats 1000000 in
theorem side_ret (vd : Value) (dk : List Bool) (W H x y bw bh : Nat) (w : World) (hr : RdL Value.bool w vd dk) (hW : 1 ≤ W ∧ W ≤ 4096) (hH : 1 ≤ H ∧ H ≤ 4096) (hn : dk.length = W * H) (hn2 : dk.length ≤ 4194304) (hx : x + bw ≤ W) (hy : y + bh ≤ H) :
  Ret Try.prog 41 #[mat W H vd, i64 x, i64 y, i64 bw, i64 bh] w fun v w' => v = .bool (decide (fil dk W x y bw bh)) ∧ Ext w w' := by
 have hM := M.start w
 refine enter Try.func41 rfl (by kernel_rfl) Try.ntmps41 rfl ?_
 refine C.seq <| C.region <| ?_
 refine E.boxM (cs := [i64 W, i64 H, vd]) hM rfl (by obtain ⟨a, cap, rfl, _⟩ := hr; rfl) rfl ?_
 intro b5 w0 hM
 try dsimp only [Za, Zb, Zc, Zd, repl] at hM
 refine E.asg rfl rfl <| E.nil <| X.next <| C.seq <| C.seq <| C.region <| E.mv rfl rfl <| E.asg rfl rfl <| E.nil <| X.next <| C.block <| ?_

 refine C.loop1 [(1, _), (2, _), (3, _), (4, _), (5, _)] rfl (fun (r : Nat) => [(11, i64 ((y + r : Nat) : Int))]) (fun (r : Nat) w' => M w (Nn) w' [Rg.blk b5 37 [i64 W, i64 H, vd]] ∧ r ≤ bh ∧ ∀ q, q < r → ∀ c, c < bw → dk.getD ((y + q) * W + x + c) false = true) (fun (r : Nat) => bh - r) 0 ?_ ?_ ?_
 · exact Sub.cons rfl <| Sub.nil _
 · exact ⟨hM, Nat.zero_le _, fun q h => absurd h (Nat.not_lt_zero _)⟩
 rintro r w1 ⟨hM, hrb, hal⟩
 refine C.seq <| C.seq <| C.region <| E.mv rfl rfl <| E.mv rfl rfl <| E.mv rfl rfl <| ?_
 refine E.addN (a := y) (b := bh) rfl rfl (by omega) rfl ?_
 refine E.bin rfl rfl rfl rfl <| E.nil <| X.next <| ?_
 refine C.cond' rfl (fun hC0 => ?_) (fun hC0 => ?_)
 ·
  have hr' : r < bh := by omega
  have hrow : (y + r) * W + W ≤ dk.length := by
   have h1 := Nat.mul_le_mul_right W (show y + r + 1 ≤ H by omega)
   rw [Nat.add_mul, Nat.one_mul, Nat.mul_comm H W, ← hn] at h1; exact h1
  refine C.skip <| X.next <| C.seq <| C.block <| C.seq <| C.region <| E.mv rfl rfl <| E.asg rfl rfl <| E.nil <| X.next <| C.block <| ?_

  refine C.loop1 [(1, _), (2, _), (3, _), (4, _), (5, _), (11, _)] rfl (fun (c : Nat) => [(12, i64 ((x + c : Nat) : Int))]) (fun (c : Nat) w' => M w (Nn) w' [Rg.blk b5 37 [i64 W, i64 H, vd]] ∧ c ≤ bw ∧ ∀ d, d < c → dk.getD ((y + r) * W + x + d) false = true) (fun (c : Nat) => bw - c) 0 ?_ ?_ ?_
  · exact Sub.cons rfl <| Sub.nil _
  · exact ⟨hM, Nat.zero_le _, fun q h => absurd h (Nat.not_lt_zero _)⟩
  rintro c w2 ⟨hM, hcb, hac⟩
  refine C.seq <| C.seq <| C.region <| E.mv rfl rfl <| E.mv rfl rfl <| E.mv rfl rfl <| ?_
  refine E.addN (a := x) (b := bw) rfl rfl (by omega) rfl ?_
  refine E.bin rfl rfl rfl rfl <| E.nil <| X.next <| ?_
  refine C.cond' rfl (fun hC1 => ?_) (fun hC1 => ?_)
  ·
   have hc' : c < bw := by omega
   have hin : ((y + r) * W + (x + c)) < dk.length := by omega
   refine C.skip <| X.next <| C.seq <| C.block <| C.seq <| C.region <| ?_
   refine E.fld (o := 2) (sz := 0) rfl Try.underlying37 rfl rfl (by kernel_rfl) rfl ?_
   refine E.load rfl Try.underlying35 rfl (hM.bcell 0 rfl rfl) rfl ?_
   refine E.mv rfl rfl <| ?_
   refine E.fld (o := 0) (sz := 0) rfl Try.underlying37 rfl rfl (by kernel_rfl) rfl ?_
   refine E.load rfl Try.underlying3 rfl (hM.bcell 0 rfl rfl) rfl ?_
   refine E.mulN (a := y + r) (b := W) rfl rfl (by omega) rfl ?_
   refine E.mv rfl rfl <| ?_
   refine E.addN (a := (y + r) * W) (b := x + c) rfl rfl (by omega) rfl ?_
   refine E.get (k := ((y + r) * W + (x + c))) rfl rfl (hM.arg0 hr) rfl hin Try.underlying35 (by kernel_rfl) Try.underlying4 rfl rfl rfl ?_
   refine E.not rfl rfl <| E.nil <| X.next <| ?_
   refine C.cond rfl (fun hC2 => ?_) (fun hC2 => ?_)
   ·
    have hlt : dk.getD ((y + r) * W + x + c) false = false := by rw [Nat.add_assoc, ← gb hin]; simpa using hC2
    refine C.seq <| C.region <| E.asg rfl rfl <| E.nil <| X.next <| C.ret <| X.retB <| X.retT <| X.retT <| X.retB <| X.retB <| X.retT <| X.retT <| X.retB <| X.retT <| ret1 rfl rfl ?_
    exact ⟨by congr 1; exact (decide_eq_false (fun h => by have := h r hr' c hc'; rw [hlt] at this; cases this)).symm, hM.toExt⟩
   ·
    have hdk : dk.getD ((y + r) * W + x + c) false = true := by rw [Nat.add_assoc, ← gb hin]; simpa using hC2
    refine C.skip <| X.outN <| X.next <| C.region <| E.mv rfl rfl <| ?_
    refine E.addN (a := x + c) (b := 1) rfl rfl (by omega) rfl ?_

    refine E.asg rfl rfl <| E.nil <| X.again1 (c + 1) (Sub.cons rfl <| Sub.nil _) rfl ⟨hM, by omega, fun d hd => if e : d = c then e ▸ hdk else hac d (by omega)⟩ (by omega)
  ·
   obtain rfl : c = bw := by omega
   refine C.exit <| X.exitT <| X.exitT <| X.outE <| X.outN <| X.next <| C.region <| E.mv rfl rfl <| ?_
   refine E.addN (a := y + r) (b := 1) rfl rfl (by omega) rfl ?_

   refine E.asg rfl rfl <| E.nil <| X.again1 (r + 1) (Sub.cons rfl <| Sub.nil _) rfl ⟨hM, by omega, fun q hq => if e : q = r then e ▸ hac else hal q (by omega)⟩ (by omega)
 ·
  obtain rfl : r = bh := by omega
  refine C.exit <| X.exitT <| X.exitT <| X.outE <| X.next <| C.seq <| C.region <| E.asg rfl rfl <| E.nil <| X.next <| C.ret <| ret1 rfl rfl ?_
  exact ⟨by congr 1; exact (decide_eq_true (p := fil dk W x y bw r) hal).symm, hM.toExt⟩
theorem els_len {dk : List Bool} {W : Nat} {bl : List Bl} (k : Nat) : (els dk W (bl.take k)).length ≤ k := by
 have := List.length_filterMap_le (elb dk W) (bl.take k)
 rw [List.length_take] at this
 show (List.filterMap _ _).length ≤ k
 omega
set_option maxHeartbeats 4000000 in
theorem rElls_ret (W0 H0 : Int) (vd : Value) (dk : List Bool) (w : World) (hr : RdL Value.bool w vd dk) :
  Ret Try.prog 15 #[mat W0 H0 vd] w fun v w' => EllV W0 H0 dk w w' v := by
 have hM := M.start w
 refine enter Try.func15 rfl (by kernel_rfl) Try.ntmps15 rfl ?_
 refine C.seq <| C.region <| ?_
 refine E.boxM (cs := [i64 W0, i64 H0, vd]) hM rfl (by obtain ⟨a, cap, rfl, _⟩ := hr; rfl) rfl ?_
 intro b1 w0 hM
 try dsimp only [Za, Zb, Zc, Zd, repl] at hM
 refine E.asg rfl rfl <| E.asg rfl rfl <| E.nil <| X.next <| C.seq <| C.seq <| C.region <| ?_
 refine E.loadA (cs := [i64 W0, i64 H0, vd]) rfl Try.underlying37 rfl (by kernel_rfl) (hM.bat 0 rfl) rfl ?_
 refine E.call rfl rfl (Sound_ret W0 H0 vd dk _ (hM.arg0 hr)) ?_
 rintro _ w1 ⟨rfl, x1⟩
 have hM := hM.ext x1
 try dsimp only [Za, Zb, Zc, Zd, repl] at hM
 refine E.not rfl rfl <| E.nil <| X.next <| ?_
 refine C.cond rfl (fun hC0 => ?_) (fun hC0 => ?_)
 ·
  have hno : ¬ okMat W0 H0 dk.length := fun h => by simp [h] at hC0
  refine C.seq <| C.region <| E.asg rfl rfl <| E.asg rfl rfl <| E.nil <| X.next <| C.ret <| X.retT <| ret2 rfl rfl rfl ?_
  exact .inl ⟨hno, rfl, hM.toExt⟩
 ·
  have hok : okMat W0 H0 dk.length := Decidable.byContradiction fun h => by simp [h] at hC0
  refine C.skip <| X.next <| C.seq <| C.region <| ?_
  refine E.loadA (cs := [i64 W0, i64 H0, vd]) rfl Try.underlying37 rfl (by kernel_rfl) (hM.bat 0 rfl) rfl ?_
  refine E.call rfl rfl (rLabel_ret W0 H0 vd dk true _ (hM.arg0 hr)) ?_
  rintro v19 w2 ⟨hA, xA⟩
  obtain ⟨va, vb, lab, bl, e, rfl, m, hA⟩ := hA.uni xA
  have hM := hM.call m
  try dsimp only [Za, Zb, Zc, Zd, repl] at hM
  refine E.mv rfl rfl <| E.ext rfl rfl rfl <| E.ext rfl rfl rfl <| E.ext rfl rfl rfl <| E.asg rfl rfl <| E.asg rfl rfl <| E.asg rfl rfl <| E.nil <| X.next <| C.seq <| C.seq <| C.region <| E.mv rfl rfl <| E.bin rfl rfl rfl rfl <| E.nil <| X.next <| ?_
  refine C.cond' rfl (fun hC1 => ?_) (fun hC1 => ?_)
  ·
   refine C.seq <| C.region <| E.mv rfl rfl <| E.asg rfl rfl <| E.asg rfl rfl <| E.nil <| X.next <| C.ret <| X.retT <| ret2 rfl rfl rfl ?_
   exact (by
     rcases hA with ⟨h1, rfl, _⟩ | ⟨h1, h2, rfl, _⟩ | ⟨h1, h2, rfl, _⟩
     · exact .inl ⟨h1, rfl, hM.toExt⟩
     · exact .inr (.inl ⟨h1, h2, rfl, hM.toExt⟩)
     · exact (hC1 rfl).elim)
  ·
   obtain ⟨hnf, rfl, hL⟩ : nf (DD dk true) (RR W0.toNat true dk true) dk.length ≤ 65536 ∧ e = 0 ∧ Labelled (DD dk true) (RR W0.toNat true dk true) W0.toNat dk.length lab bl := by
    rcases hA with ⟨h1, rfl, _⟩ | ⟨h1, h2, rfl, _⟩ | ⟨h1, h2, rfl, h3⟩
    · exact (hC1 (by decide)).elim
    · exact (hC1 (by decide)).elim
    · exact ⟨h2, rfl, h3⟩
   obtain ⟨W, H, rfl, rfl, ha1, ha2, hb1, hb2, hn, hn2⟩ := okMat_nat hok
   rw [Int.toNat_natCast] at hL hnf
   have hbl : bl.length ≤ 65536 := by rw [hL.num]; exact hnf
   have hM := (hM.nilF bxc 4 59).pick [0, 2, 3] (by decide)
   refine C.skip <| X.next <| C.seq <| C.region <| E.asg rfl rfl <| E.nil <| X.next <| C.seq <| C.seq <| C.region <| E.asg rfl rfl <| E.nil <| X.next <| C.block <| ?_

   refine C.loop2 [(1, _), (5, _)] rfl (fun (k : Nat) (vl : Value) => [(7, vl), (8, i64 k)]) (fun (k : Nat) (vl : Value) w' => M w (Nn) w' [Rg.blk b1 37 [i64 W, i64 H, vd], Rg.slF Bl.cells 7 73 vb bl, Rg.slF bxc 4 59 vl (els dk W (bl.take k))] ∧ k ≤ bl.length) (fun (k : Nat) (vl : Value) => bl.length - k) 0 nls ?_ ?_ ?_
   · exact Sub.cons rfl <| Sub.cons rfl <| Sub.nil _
   · exact ⟨hM, Nat.zero_le _⟩
   rintro k vl w3 ⟨hM, hk⟩
   refine C.seq <| C.seq <| C.region <| E.mv rfl rfl <| E.mv rfl rfl <| ?_
   refine E.lenv rfl (RdF.shape (hM.slF 1 rfl)) Try.underlying69 rfl ?_
   refine E.bin rfl rfl rfl rfl <| E.nil <| X.next <| ?_
   refine C.cond' rfl (fun hC2 => ?_) (fun hC2 => ?_)
   ·
    have hk' : k < bl.length := by omega
    have hel := els_len (dk := dk) (W := W) (bl := bl) k
    obtain ⟨x, y, bw, h, e1, e2, e3, e4, hw1, hh1, hxW, hyH⟩ := blob_in (by omega) (hn ▸ hL) hk'
    refine C.skip <| X.next <| ?_

    refine C.cut1 [(1, _), (5, _), (8, _)] rfl (fun (vl : Value) => [(7, vl)]) (fun (vl : Value) w' => M w (Nn) w' [Rg.blk b1 37 [i64 W, i64 H, vd], Rg.slF Bl.cells 7 73 vb bl, Rg.slF bxc 4 59 vl (els dk W (bl.take (k + 1)))]) ?_ ?_
    ·
     refine C.block <| C.seq <| C.region <| E.mv rfl rfl <| E.mv rfl rfl <| ?_
     refine E.idxF (k := k) rfl rfl (hM.slF 1 rfl) rfl hk' (by decide) Try.underlying69 (by kernel_rfl) rfl ?_
     refine E.fld (o := 0) (sz := 3) rfl Try.underlying73 rfl rfl (by kernel_rfl) rfl ?_
     refine E.loadA (cs := [i64 bl[k].x, i64 bl[k].y, i64 bl[k].w, i64 bl[k].h]) rfl Try.underlying59 rfl (by kernel_rfl) ((hM.slF 1 rfl).sub (n := 4) hk') rfl ?_
     rw [e1, e2, e3, e4]
     refine E.allocM (z := .agg #[.int .i64 0, .int .i64 0, .int .i64 0, .int .i64 0]) (cs := [.int .i64 0, .int .i64 0, .int .i64 0, .int .i64 0]) hM (by kernel_rfl) rfl rfl ?_
     intro b9 w4 hM
     try dsimp only [Za, Zb, Zc, Zd, repl] at hM
     refine E.storeAM 3 (cs := [i64 x, i64 y, i64 bw, i64 h]) hM rfl rfl rfl (by kernel_rfl) rfl (ones rfl <| ones rfl <| ones rfl <| ones rfl <| ones_nil) ?_
     intro w5 hM
     try dsimp only [Za, Zb, Zc, Zd, repl] at hM
     refine E.nil <| X.next <| C.seq <| C.drawn (by kernel_rfl) (by kernel_rfl) <| ?_
     refine Q.loadA (cs := [i64 W, i64 H, vd]) rfl Try.underlying37 rfl (by kernel_rfl) (hM.bat 0 rfl) rfl ?_
     refine Q.fld (o := 0) (sz := 0) rfl Try.underlying59 rfl rfl (by kernel_rfl) rfl ?_
     refine Q.load rfl Try.underlying3 rfl (hM.bcell 3 rfl rfl) rfl ?_
     refine Q.fld (o := 1) (sz := 0) rfl Try.underlying59 rfl rfl (by kernel_rfl) rfl ?_
     refine Q.load rfl Try.underlying3 rfl (hM.bcell 3 rfl rfl) rfl ?_
     refine Q.fld (o := 3) (sz := 0) rfl Try.underlying59 rfl rfl (by kernel_rfl) rfl ?_
     refine Q.load rfl Try.underlying3 rfl (hM.bcell 3 rfl rfl) rfl ?_
     refine Q.call (v := .bool (decide (fil dk W x y 1 h))) rfl rfl (fun w' hw' => side_ret vd dk W H x y 1 h w' ((hM.arg0 hr).ext hw') ⟨ha1, ha2⟩ ⟨hb1, hb2⟩ hn hn2 (by omega) (by omega)) ?_
     refine Q.loadA (cs := [i64 W, i64 H, vd]) rfl Try.underlying37 rfl (by kernel_rfl) (hM.bat 0 rfl) rfl ?_
     refine Q.fld (o := 0) (sz := 0) rfl Try.underlying59 rfl rfl (by kernel_rfl) rfl ?_
     refine Q.load rfl Try.underlying3 rfl (hM.bcell 3 rfl rfl) rfl ?_
     refine Q.fld (o := 2) (sz := 0) rfl Try.underlying59 rfl rfl (by kernel_rfl) rfl ?_
     refine Q.load rfl Try.underlying3 rfl (hM.bcell 3 rfl rfl) rfl ?_
     refine Q.addN (a := x) (b := bw) rfl rfl (by omega) rfl ?_
     refine Q.subN (a := x + bw) (b := 1) rfl rfl (by omega) rfl ?_
     refine Q.fld (o := 1) (sz := 0) rfl Try.underlying59 rfl rfl (by kernel_rfl) rfl ?_
     refine Q.load rfl Try.underlying3 rfl (hM.bcell 3 rfl rfl) rfl ?_
     refine Q.fld (o := 3) (sz := 0) rfl Try.underlying59 rfl rfl (by kernel_rfl) rfl ?_
     refine Q.load rfl Try.underlying3 rfl (hM.bcell 3 rfl rfl) rfl ?_
     refine Q.call (v := .bool (decide (fil dk W (x + bw - 1) y 1 h))) rfl rfl (fun w' hw' => side_ret vd dk W H (x + bw - 1) y 1 h w' ((hM.arg0 hr).ext hw') ⟨ha1, ha2⟩ ⟨hb1, hb2⟩ hn hn2 (by omega) (by omega)) ?_
     refine Q.asg rfl rfl <| Q.asg rfl rfl <| Q.nil <| fun w6 hx6 => ?_
     have hM := hM.ext hx6
     refine X.next <| C.seq <| C.drawn (by kernel_rfl) (by kernel_rfl) <| ?_
     refine Q.loadA (cs := [i64 W, i64 H, vd]) rfl Try.underlying37 rfl (by kernel_rfl) (hM.bat 0 rfl) rfl ?_
     refine Q.fld (o := 0) (sz := 0) rfl Try.underlying59 rfl rfl (by kernel_rfl) rfl ?_
     refine Q.load rfl Try.underlying3 rfl (hM.bcell 3 rfl rfl) rfl ?_
     refine Q.fld (o := 1) (sz := 0) rfl Try.underlying59 rfl rfl (by kernel_rfl) rfl ?_
     refine Q.load rfl Try.underlying3 rfl (hM.bcell 3 rfl rfl) rfl ?_
     refine Q.fld (o := 2) (sz := 0) rfl Try.underlying59 rfl rfl (by kernel_rfl) rfl ?_
     refine Q.load rfl Try.underlying3 rfl (hM.bcell 3 rfl rfl) rfl ?_
     refine Q.call (v := .bool (decide (fil dk W x y bw 1))) rfl rfl (fun w' hw' => side_ret vd dk W H x y bw 1 w' ((hM.arg0 hr).ext hw') ⟨ha1, ha2⟩ ⟨hb1, hb2⟩ hn hn2 (by omega) (by omega)) ?_
     refine Q.loadA (cs := [i64 W, i64 H, vd]) rfl Try.underlying37 rfl (by kernel_rfl) (hM.bat 0 rfl) rfl ?_
     refine Q.fld (o := 0) (sz := 0) rfl Try.underlying59 rfl rfl (by kernel_rfl) rfl ?_
     refine Q.load rfl Try.underlying3 rfl (hM.bcell 3 rfl rfl) rfl ?_
     refine Q.fld (o := 1) (sz := 0) rfl Try.underlying59 rfl rfl (by kernel_rfl) rfl ?_
     refine Q.load rfl Try.underlying3 rfl (hM.bcell 3 rfl rfl) rfl ?_
     refine Q.fld (o := 3) (sz := 0) rfl Try.underlying59 rfl rfl (by kernel_rfl) rfl ?_
     refine Q.load rfl Try.underlying3 rfl (hM.bcell 3 rfl rfl) rfl ?_
     refine Q.addN (a := y) (b := h) rfl rfl (by omega) rfl ?_
     refine Q.subN (a := y + h) (b := 1) rfl rfl (by omega) rfl ?_
     refine Q.fld (o := 2) (sz := 0) rfl Try.underlying59 rfl rfl (by kernel_rfl) rfl ?_
     refine Q.load rfl Try.underlying3 rfl (hM.bcell 3 rfl rfl) rfl ?_
     refine Q.call (v := .bool (decide (fil dk W x (y + h - 1) bw 1))) rfl rfl (fun w' hw' => side_ret vd dk W H x (y + h - 1) bw 1 w' ((hM.arg0 hr).ext hw') ⟨ha1, ha2⟩ ⟨hb1, hb2⟩ hn hn2 (by omega) (by omega)) ?_
     obtain ⟨p1, hp1⟩ : ∃ p, p = decide (fil dk W x y 1 h) := ⟨_, rfl⟩
     obtain ⟨p2, hp2⟩ : ∃ p, p = decide (fil dk W (x + bw - 1) y 1 h) := ⟨_, rfl⟩
     obtain ⟨p3, hp3⟩ : ∃ p, p = decide (fil dk W x y bw 1) := ⟨_, rfl⟩
     obtain ⟨p4, hp4⟩ : ∃ p, p = decide (fil dk W x (y + h - 1) bw 1) := ⟨_, rfl⟩
     have hell : ellP dk W x y bw h ↔ ((p1 || p2) && (p3 || p4)) = true := by rw [hp1, hp2, hp3, hp4]; unfold ellP; simp
     rw [← hp1, ← hp2, ← hp3, ← hp4]
     clear hp1 hp2 hp3 hp4
     refine Q.asg rfl rfl <| Q.asg rfl rfl <| Q.nil <| fun w7 hx7 => ?_
     have hM := hM.ext hx7
     refine X.next <| ?_

     refine C.chainE [(1, _), (5, _), (7, _), (8, _), (9, _)] rfl [(96, .bool (decide (8 ≤ (bw : Int) ∧ 8 ≤ (h : Int) ∧ ellP dk W x y bw h)))] ?_ ?_
     ·
      refine C.region <| ?_
      refine E.fld (o := 2) (sz := 0) rfl Try.underlying59 rfl rfl (by kernel_rfl) rfl ?_
      refine E.load rfl Try.underlying3 rfl (by exact hM.bcell 3 rfl rfl) rfl ?_
      refine E.bin rfl rfl rfl rfl <| E.mv rfl rfl <| ?_
      refine E.split 80 rfl (fun g80 => ?_) (fun g80 => ?_)
      ·
       try simp only [Ya, Yb, Yc, Yd, Ye, Yf] at g80
       refine E.on rfl rfl (E.fld (o := 3) (sz := 0) rfl Try.underlying59 rfl rfl (by kernel_rfl) rfl ?_)
       refine E.on rfl rfl (E.load rfl Try.underlying3 rfl (by exact hM.bcell 3 rfl rfl) rfl ?_)
       refine E.on rfl rfl (E.bin rfl rfl rfl rfl ?_)
       refine E.pick rfl rfl rfl <| E.mv rfl rfl <| ?_
       refine E.split 85 rfl (fun g85 => ?_) (fun g85 => ?_)
       ·
        try simp only [Ya, Yb, Yc, Yd, Ye, Yf] at g85
        refine E.on rfl rfl (E.mv rfl rfl ?_)
        refine E.on rfl rfl (E.mv rfl rfl ?_)
        refine E.split 87 rfl (fun g87 => ?_) (fun g87 => ?_)
        ·
         try simp only [Ya, Yb, Yc, Yd, Ye, Yf] at g87
         refine E.off rfl rfl rfl rfl <| ?_
         refine E.on rfl rfl (E.pick rfl rfl rfl ?_)
         refine E.pick rfl rfl rfl <| E.mv rfl rfl <| ?_
         refine E.on rfl rfl (E.mv rfl rfl ?_)
         refine E.on rfl rfl (E.mv rfl rfl ?_)
         refine E.split 93 rfl (fun g93 => ?_) (fun g93 => ?_)
         ·
          try simp only [Ya, Yb, Yc, Yd, Ye, Yf] at g93
          refine E.off rfl rfl rfl rfl <| ?_
          refine E.on rfl rfl (E.pick rfl rfl rfl ?_)
          refine E.pick rfl rfl rfl <| E.nil <| X.join0 (Sub.cons (look_eq rfl (congrArg Value.bool (by (rw [Bool.eq_iff_iff, decide_eq_true_iff, hell]; clear hell; cases p1 <;> cases p2 <;> cases p3 <;> cases p4 <;> first | contradiction | exact ⟨fun _ => ⟨by omega, by omega, rfl⟩, fun _ => rfl⟩ | exact ⟨fun q => Bool.noConfusion q, fun q => Bool.noConfusion q.2.2⟩)))) <| Sub.nil _) rfl rfl
         ·
          try simp only [Ya, Yb, Yc, Yd, Ye, Yf] at g93
          refine E.on rfl rfl (E.mv rfl rfl ?_)
          refine E.on rfl rfl (E.pick rfl rfl rfl ?_)
          refine E.pick rfl rfl rfl <| E.nil <| X.join0 (Sub.cons (look_eq rfl (congrArg Value.bool (by (rw [Bool.eq_iff_iff, decide_eq_true_iff, hell]; clear hell; cases p1 <;> cases p2 <;> cases p3 <;> cases p4 <;> first | contradiction | exact ⟨fun _ => ⟨by omega, by omega, rfl⟩, fun _ => rfl⟩ | exact ⟨fun q => Bool.noConfusion q, fun q => Bool.noConfusion q.2.2⟩)))) <| Sub.nil _) rfl rfl
        ·
         try simp only [Ya, Yb, Yc, Yd, Ye, Yf] at g87
         refine E.on rfl rfl (E.mv rfl rfl ?_)
         refine E.on rfl rfl (E.pick rfl rfl rfl ?_)
         refine E.pick rfl rfl rfl <| E.mv rfl rfl <| ?_
         refine E.split 91 rfl (fun g91 => ?_) (fun g91 => ?_)
         ·
          try simp only [Ya, Yb, Yc, Yd, Ye, Yf] at g91
          refine E.on rfl rfl (E.mv rfl rfl ?_)
          refine E.on rfl rfl (E.mv rfl rfl ?_)
          refine E.split 93 rfl (fun g93 => ?_) (fun g93 => ?_)
          ·
           try simp only [Ya, Yb, Yc, Yd, Ye, Yf] at g93
           refine E.off rfl rfl rfl rfl <| ?_
           refine E.on rfl rfl (E.pick rfl rfl rfl ?_)
           refine E.pick rfl rfl rfl <| E.nil <| X.join0 (Sub.cons (look_eq rfl (congrArg Value.bool (by (rw [Bool.eq_iff_iff, decide_eq_true_iff, hell]; clear hell; cases p1 <;> cases p2 <;> cases p3 <;> cases p4 <;> first | contradiction | exact ⟨fun _ => ⟨by omega, by omega, rfl⟩, fun _ => rfl⟩ | exact ⟨fun q => Bool.noConfusion q, fun q => Bool.noConfusion q.2.2⟩)))) <| Sub.nil _) rfl rfl
          ·
           try simp only [Ya, Yb, Yc, Yd, Ye, Yf] at g93
           refine E.on rfl rfl (E.mv rfl rfl ?_)
           refine E.on rfl rfl (E.pick rfl rfl rfl ?_)
           refine E.pick rfl rfl rfl <| E.nil <| X.join0 (Sub.cons (look_eq rfl (congrArg Value.bool (by (rw [Bool.eq_iff_iff, decide_eq_true_iff, hell]; clear hell; cases p1 <;> cases p2 <;> cases p3 <;> cases p4 <;> first | contradiction | exact ⟨fun _ => ⟨by omega, by omega, rfl⟩, fun _ => rfl⟩ | exact ⟨fun q => Bool.noConfusion q, fun q => Bool.noConfusion q.2.2⟩)))) <| Sub.nil _) rfl rfl
         ·
          try simp only [Ya, Yb, Yc, Yd, Ye, Yf] at g91
          refine E.off rfl rfl rfl rfl <| E.off rfl rfl rfl rfl <| E.offu rfl rfl rfl <| E.off rfl rfl rfl rfl <| E.pick rfl rfl rfl <| E.nil <| X.join0 (Sub.cons (look_eq rfl (congrArg Value.bool (by (rw [Bool.eq_iff_iff, decide_eq_true_iff, hell]; clear hell; cases p1 <;> cases p2 <;> cases p3 <;> cases p4 <;> first | contradiction | exact ⟨fun _ => ⟨by omega, by omega, rfl⟩, fun _ => rfl⟩ | exact ⟨fun q => Bool.noConfusion q, fun q => Bool.noConfusion q.2.2⟩)))) <| Sub.nil _) rfl rfl
       ·
        try simp only [Ya, Yb, Yc, Yd, Ye, Yf] at g85
        refine E.off rfl rfl rfl rfl <| E.off rfl rfl rfl rfl <| E.offu rfl rfl rfl <| E.off rfl rfl rfl rfl <| E.pick rfl rfl rfl <| E.mv rfl rfl <| E.off rfl rfl rfl rfl <| E.off rfl rfl rfl rfl <| E.offu rfl rfl rfl <| E.off rfl rfl rfl rfl <| E.pick rfl rfl rfl <| E.nil <| X.join0 (Sub.cons (look_eq rfl (congrArg Value.bool (by exact (decide_eq_false (fun q => by omega)).symm))) <| Sub.nil _) rfl rfl
      ·
       try simp only [Ya, Yb, Yc, Yd, Ye, Yf] at g80
       refine E.off rfl rfl rfl rfl <| E.off rfl rfl rfl rfl <| E.off rfl rfl rfl rfl <| E.pick rfl rfl rfl <| E.mv rfl rfl <| E.off rfl rfl rfl rfl <| E.off rfl rfl rfl rfl <| E.offu rfl rfl rfl <| E.off rfl rfl rfl rfl <| E.pick rfl rfl rfl <| E.mv rfl rfl <| E.off rfl rfl rfl rfl <| E.off rfl rfl rfl rfl <| E.offu rfl rfl rfl <| E.off rfl rfl rfl rfl <| E.pick rfl rfl rfl <| E.nil <| X.join0 (Sub.cons (look_eq rfl (congrArg Value.bool (by exact (decide_eq_false (fun q => by omega)).symm))) <| Sub.nil _) rfl rfl
     refine C.cond' rfl (fun hC3 => ?_) (fun hC3 => ?_)
     ·
      have hes := els_s (dk := dk) (W := W) hk' (x := ⟨x, y, bw, h⟩) (by unfold elb; rw [e1, e2, e3, e4]; simp only [Int.toNat_natCast]; rw [if_pos hC3])
      refine C.region <| E.mv rfl rfl <| ?_
      refine E.loadA (cs := [i64 x, i64 y, i64 bw, i64 h]) rfl Try.underlying59 rfl (by kernel_rfl) (hM.bat 3 rfl) rfl ?_
      refine E.pushFM 2 (⟨x, y, bw, h⟩ : Fi.Bx) hM rfl rfl rfl Try.underlying39 elem_Tapi_Box rfl (by decide) (ones rfl <| ones rfl <| ones rfl <| ones rfl <| ones_nil) (by omega) (by omega) (by simp) rfl rfl ?_
      intro v100 u100 w8 hM
      try dsimp only [Za, Zb, Zc, Zd, repl] at hM

      refine E.asg rfl rfl <| E.nil <| X.outN <| X.join1 _ (Sub.cons rfl <| Sub.nil _) rfl (by rw [hes]; exact hM.pick [0, 1, 2] (by decide))
     ·
      have hen := els_n (dk := dk) (W := W) hk' (by unfold elb; rw [e1, e2, e3, e4]; simp only [Int.toNat_natCast]; rw [if_neg hC3])

      refine C.skip <| X.outN <| X.join1 vl (Sub.cons rfl <| Sub.nil _) rfl (by rw [hen]; exact hM.pick [0, 1, 2] (by decide))
    rintro vl w9 hM
    refine C.region <| E.mv rfl rfl <| ?_
    refine E.add rfl rfl (by omega) rfl ?_

    refine E.asg rfl rfl <| E.nil <| X.again2 (k + 1) _ (Sub.cons rfl <| Sub.cons rfl <| Sub.nil _) rfl ⟨hM, by omega⟩ (by omega)
   ·
    obtain rfl : k = bl.length := by omega
    rw [List.take_length] at hM
    refine C.exit <| X.exitT <| X.exitT <| X.outE <| X.next <| C.seq <| C.seq <| C.region <| E.mv rfl rfl <| ?_
    refine E.lenv rfl (RdF.shape (hM.slF 2 rfl)) Try.underlying39 rfl ?_
    refine E.bin rfl rfl rfl rfl <| E.nil <| X.next <| ?_
    refine C.cond' rfl (fun hC4 => ?_) (fun hC4 => ?_)
    ·
     refine C.seq <| C.region <| E.asg rfl rfl <| E.asg rfl rfl <| E.nil <| X.next <| C.ret <| X.retT <| ret2 rfl rfl rfl ?_
     exact .inr (.inr ⟨hok, by rw [Int.toNat_natCast]; exact hnf, lab, bl, by rw [Int.toNat_natCast]; exact hL, .inl ⟨by rw [Int.toNat_natCast]; omega, rfl, hM.toExt⟩⟩)
    ·
     refine C.skip <| X.next <| C.seq <| C.region <| E.mv rfl rfl <| E.asg rfl rfl <| E.asg rfl rfl <| E.nil <| X.next <| C.ret <| ret2 rfl rfl rfl ?_
     exact .inr (.inr ⟨hok, by rw [Int.toNat_natCast]; exact hnf, lab, bl, by rw [Int.toNat_natCast]; exact hL, .inr ⟨by rw [Int.toNat_natCast]; omega, _, rfl, by rw [Int.toNat_natCast]; exact hM.pick [2] (by decide)⟩⟩)
theorem few_ret (W H : Int) (vd : Value) (n : Nat) (w : World) (hv : ∃ a cap, vd = .slice a n cap) :
  Ret Try.prog 13 #[mat W H vd] w fun v w' => v = .bool (decide (n ≤ 6000)) ∧ Ext w w' := by
 obtain ⟨c0, cap0, rfl⟩ := hv
 have hM := M.start w
 refine enter Try.func13 rfl (by kernel_rfl) Try.ntmps13 rfl ?_
 refine C.seq <| C.region <| ?_
 refine E.boxM hM rfl rfl rfl ?_
 intro b1 w0 hM
 try dsimp only [Za, Zb, Zc, Zd, repl] at hM
 refine E.asg rfl rfl <| E.nil <| X.next <| C.seq <| C.region <| ?_
 refine E.fld (o := 2) (sz := 0) rfl Try.underlying37 rfl rfl (by kernel_rfl) rfl ?_
 refine E.load rfl Try.underlying35 rfl (by exact hM.bcell 0 rfl rfl) rfl ?_
 refine E.lenv rfl ⟨_, _, rfl⟩ Try.underlying35 rfl ?_
 refine E.bin rfl rfl rfl rfl <| E.asg rfl rfl <| E.nil <| X.next <| C.ret <| ret1 rfl rfl ?_
 exact ⟨congrArg Value.bool (decide_eq_decide.2 (by omega)), hM.toExt⟩
theorem EllV.two {W H : Int} {dk : List Bool} {w0 w1 w2 w3 : World} {v v' : Value} (h : EllV W H dk w0 w1 v) (k : EllV W H dk w2 w3 v') : ∃ (va vb : Value) (e : Int) (t : List Fi.Bx), v = .tuple #[va, i64 e] ∧ v' = .tuple #[vb, i64 e] ∧ t.length ≤ 4096 ∧ M w0 Nn w1 [Rg.slF bxc 4 59 va t] ∧ M w2 Nn w3 [Rg.slF bxc 4 59 vb t] := by
  rcases h with ⟨h1, rfl, h3⟩ | ⟨h1, h2, rfl, h3⟩ | ⟨h1, h2, lab, bl, hL, h⟩ <;> rcases k with ⟨k1, rfl, k3⟩ | ⟨k1, k2, rfl, k3⟩ | ⟨k1, k2, lab', bl', kL, k⟩
  · exact ⟨nls, nls, 1, [], rfl, rfl, by decide, (M.ofExt h3).nilF bxc 4 59, (M.ofExt k3).nilF bxc 4 59⟩
  · exact (h1 k1).elim
  · exact (h1 k1).elim
  · exact (k1 h1).elim
  · exact ⟨nls, nls, 4, [], rfl, rfl, by decide, (M.ofExt h3).nilF bxc 4 59, (M.ofExt k3).nilF bxc 4 59⟩
  · omega
  · exact (k1 h1).elim
  · omega
  · obtain ⟨_, rfl⟩ := hL.uniq kL
    rcases h with ⟨a1, rfl, a3⟩ | ⟨a1, vl, rfl, a3⟩ <;> rcases k with ⟨c1, rfl, c3⟩ | ⟨c1, vl', rfl, c3⟩
    · exact ⟨nls, nls, 4, [], rfl, rfl, by decide, (M.ofExt a3).nilF bxc 4 59, (M.ofExt c3).nilF bxc 4 59⟩
    · omega
    · omega
    · exact ⟨vl, vl', 0, _, rfl, rfl, a1, a3, c3⟩
theorem StrV.two {W H bars : Int} {dk : List Bool} {w0 w1 w2 w3 : World} {v v' : Value} (h : StrV W H dk bars w0 w1 v) (k : StrV W H dk bars w2 w3 v') : ∃ (va vb : Value) (e : Int) (t : List Fi.Bx), v = .tuple #[va, i64 e] ∧ v' = .tuple #[vb, i64 e] ∧ t.length ≤ 4096 ∧ M w0 Nn w1 [Rg.slF bxc 4 59 va t] ∧ M w2 Nn w3 [Rg.slF bxc 4 59 vb t] := by
 rcases h with ⟨h1, rfl, h3⟩ | ⟨h1, h2, rfl, h3⟩ | ⟨h1, h2, h4, rfl, h3⟩ | ⟨h1, h2, h4, vl, rfl, h3⟩ <;> rcases k with ⟨k1, rfl, k3⟩ | ⟨k1, k2, rfl, k3⟩ | ⟨k1, k2, k4, rfl, k3⟩ | ⟨k1, k2, k4, vl', rfl, k3⟩ <;> first
  | exact (h1 k1).elim
  | exact (k1 h1).elim
  | (exfalso; omega)
  | exact ⟨nls, nls, _, [], rfl, rfl, by decide, (M.ofExt h3).nilF bxc 4 59, (M.ofExt k3).nilF bxc 4 59⟩
  | exact ⟨vl, vl', 0, _, rfl, rfl, h4, h3, k3⟩
theorem EllV.ext {W H : Int} {dk : List Bool} {w w' : World} {v : Value} (h : EllV W H dk w w' v) : ∃ (va : Value) (e : Int), v = .tuple #[va, i64 e] ∧ Ext w w' := by
 rcases h with ⟨_, rfl, h3⟩ | ⟨_, _, rfl, h3⟩ | ⟨_, _, _, _, _, ⟨_, rfl, h3⟩ | ⟨_, vl, rfl, h3⟩⟩
 · exact ⟨_, _, rfl, h3⟩
 · exact ⟨_, _, rfl, h3⟩
 · exact ⟨_, _, rfl, h3⟩
 · exact ⟨_, _, rfl, h3.toExt⟩
theorem StrV.ext {W H bars : Int} {dk : List Bool} {w w' : World} {v : Value} (h : StrV W H dk bars w w' v) : ∃ (va : Value) (e : Int), v = .tuple #[va, i64 e] ∧ Ext w w' := by
 rcases h with ⟨_, rfl, h3⟩ | ⟨_, _, rfl, h3⟩ | ⟨_, _, _, rfl, h3⟩ | ⟨_, _, _, vl, rfl, h3⟩
 · exact ⟨_, _, rfl, h3⟩
 · exact ⟨_, _, rfl, h3⟩
 · exact ⟨_, _, rfl, h3⟩
 · exact ⟨_, _, rfl, h3.toExt⟩
set_option maxHeartbeats 4000000 in
theorem FinderBoxes_ret (W H : Int) (vd : Value) (dk : List Bool) (bars : Int) (w : World) (hr : RdL Value.bool w vd dk) :
  Ret Try.prog 4 #[mat W H vd, i64 bars] w fun v w' => v = .bool true ∧ Ext w w' := by
 have hM := M.start w
 refine enter Try.func4 rfl (by kernel_rfl) Try.ntmps4 rfl ?_
 refine C.seq <| C.region <| ?_
 refine E.boxM (cs := [i64 W, i64 H, vd]) hM rfl (by obtain ⟨a, cap, rfl, _⟩ := hr; rfl) rfl ?_
 intro b2 w0 hM
 try dsimp only [Za, Zb, Zc, Zd, repl] at hM
 refine E.asg rfl rfl <| E.nil <| X.next <| C.seq <| C.seq <| C.region <| ?_
 refine E.loadA (cs := [i64 W, i64 H, vd]) rfl Try.underlying37 rfl (by kernel_rfl) (hM.bat 0 rfl) rfl ?_
 refine E.call rfl rfl (few_ret W H vd dk.length _ hr.shape) ?_
 rintro _ w1 ⟨rfl, x1⟩
 have hM := hM.ext x1
 try dsimp only [Za, Zb, Zc, Zd, repl] at hM
 refine E.not rfl rfl <| E.nil <| X.next <| ?_
 refine C.cond rfl (fun hC0 => ?_) (fun hC0 => ?_)
 ·
  refine C.seq <| C.region <| ?_
  refine E.call rfl rfl (alive_ret _) ?_
  rintro _ w2 ⟨rfl, x2⟩
  have hM := hM.ext x2
  try dsimp only [Za, Zb, Zc, Zd, repl] at hM
  refine E.asg rfl rfl <| E.nil <| X.next <| C.ret <| X.retT <| ret1 rfl rfl ?_
  exact ⟨rfl, hM.toExt⟩
 ·
  refine C.skip <| X.next <| C.seq <| C.region <| ?_
  refine E.loadA (cs := [i64 W, i64 H, vd]) rfl Try.underlying37 rfl (by kernel_rfl) (hM.bat 0 rfl) rfl ?_
  refine E.call rfl rfl (Ells_ret W H vd dk _ (hM.arg0 hr)) ?_
  rintro v19 w3 h3
  have hM0 := hM
  obtain ⟨vq, eq, ev, x3⟩ := h3.ext
  have hM := hM.ext x3
  subst ev
  try dsimp only [Za, Zb, Zc, Zd, repl] at hM
  refine E.mv rfl rfl <| E.ext rfl rfl rfl <| E.ext rfl rfl rfl <| E.asg rfl rfl <| E.asg rfl rfl <| E.nil <| X.next <| C.seq <| C.region <| ?_
  refine E.loadA (cs := [i64 W, i64 H, vd]) rfl Try.underlying37 rfl (by kernel_rfl) (hM.bat 0 rfl) rfl ?_
  refine E.call rfl rfl (rElls_ret W H vd dk _ (hM.arg0 hr)) ?_
  rintro v24 w4 h4
  obtain ⟨va, vb, e, t, ev, rfl, ht, m3, m4⟩ := h3.two h4
  injection ev with ev
  simp only [Array.mk.injEq, List.cons.injEq, Value.int.injEq, and_true, true_and] at ev
  obtain ⟨rfl, rfl⟩ := ev
  have hM := (hM0.call m3).call m4
  try dsimp only [Za, Zb, Zc, Zd, repl] at hM
  refine E.mv rfl rfl <| E.ext rfl rfl rfl <| E.ext rfl rfl rfl <| E.asg rfl rfl <| E.asg rfl rfl <| E.nil <| X.next <| C.seq <| C.region <| ?_
  refine E.loadA (cs := [i64 W, i64 H, vd]) rfl Try.underlying37 rfl (by kernel_rfl) (hM.bat 0 rfl) rfl ?_
  refine E.mv rfl rfl <| ?_
  refine E.call rfl rfl (Stripes_ret W H vd dk bars _ (hM.arg0 hr)) ?_
  rintro v30 w5 h5
  have hM0 := hM
  obtain ⟨vq5, eq5, ev, x5⟩ := h5.ext
  have hM := hM.ext x5
  subst ev
  try dsimp only [Za, Zb, Zc, Zd, repl] at hM
  refine E.mv rfl rfl <| E.ext rfl rfl rfl <| E.ext rfl rfl rfl <| E.asg rfl rfl <| E.asg rfl rfl <| E.nil <| X.next <| C.seq <| C.region <| ?_
  refine E.loadA (cs := [i64 W, i64 H, vd]) rfl Try.underlying37 rfl (by kernel_rfl) (hM.bat 0 rfl) rfl ?_
  refine E.mv rfl rfl <| ?_
  refine E.call rfl rfl (rStripes_ret W H vd dk bars _ (hM.arg0 hr)) ?_
  rintro v36 w6 h6
  obtain ⟨vc, vd', e5, t5, ev, rfl, ht5, m5, m6⟩ := h5.two h6
  injection ev with ev
  simp only [Array.mk.injEq, List.cons.injEq, Value.int.injEq, and_true, true_and] at ev
  obtain ⟨rfl, rfl⟩ := ev
  have hM := (hM0.call m5).call m6
  try dsimp only [Za, Zb, Zc, Zd, repl] at hM
  refine E.mv rfl rfl <| E.ext rfl rfl rfl <| E.ext rfl rfl rfl <| E.asg rfl rfl <| E.asg rfl rfl <| E.nil <| X.next <| ?_

  refine C.cut0 [] rfl [(4, .bool true)] (fun w' => M w (Nn) w' []) ?_ ?_
  ·
   refine C.region <| E.mv rfl rfl <| E.mv rfl rfl <| ?_
   refine E.call rfl rfl (Boxes_ret _ _ t t _ (hM.slF 1 rfl) (hM.slF 2 rfl) (by omega)) ?_
   rintro _ w7 ⟨rfl, x7⟩
   have hM := hM.ext x7
   try dsimp only [Za, Zb, Zc, Zd, repl] at hM
   refine E.mv rfl rfl <| ?_
   refine E.split 42 rfl (fun g42 => ?_) (fun g42 => ?_)
   ·
    try simp only [Ya, Yb, Yc, Yd, Ye, Yf] at g42
    refine E.on rfl rfl (E.mv rfl rfl ?_)
    refine E.on rfl rfl (E.mv rfl rfl ?_)
    refine E.on rfl rfl (E.bin rfl rfl rfl rfl ?_)
    refine E.pick rfl rfl rfl <| E.mv rfl rfl <| ?_
    refine E.split 47 rfl (fun g47 => ?_) (fun g47 => ?_)
    ·
     try simp only [Ya, Yb, Yc, Yd, Ye, Yf] at g47
     refine E.on rfl rfl (E.mv rfl rfl ?_)
     refine E.on rfl rfl (E.mv rfl rfl ?_)
     refine E.on rfl rfl (E.call rfl rfl (Boxes_ret _ _ t5 t5 _ (hM.slF 3 rfl) (hM.slF 4 rfl) (by omega)) ?_)
     rintro _ w8 ⟨rfl, x8⟩
     have hM := hM.ext x8
     try dsimp only [Za, Zb, Zc, Zd, repl] at hM
     refine E.pick rfl rfl rfl <| E.mv rfl rfl <| ?_
     refine E.split 52 rfl (fun g52 => ?_) (fun g52 => ?_)
     ·
      try simp only [Ya, Yb, Yc, Yd, Ye, Yf] at g52
      refine E.on rfl rfl (E.mv rfl rfl ?_)
      refine E.on rfl rfl (E.mv rfl rfl ?_)
      refine E.on rfl rfl (E.bin rfl rfl rfl rfl ?_)
      refine E.pick rfl rfl rfl <| E.mv rfl rfl <| ?_
      refine E.split 57 rfl (fun g57 => ?_) (fun g57 => ?_)
      ·
       try simp only [Ya, Yb, Yc, Yd, Ye, Yf] at g57
       refine E.on rfl rfl (E.call rfl rfl (alive_ret _) ?_)
       rintro _ w9 ⟨rfl, x9⟩
       have hM := hM.ext x9
       try dsimp only [Za, Zb, Zc, Zd, repl] at hM

       refine E.pick rfl rfl rfl <| E.asg rfl rfl <| E.nil <| X.join0  (Sub.cons rfl <| Sub.nil _) rfl (hM.pick [] (by decide))
      ·
       try simp only [Ya, Yb, Yc, Yd, Ye, Yf] at g57
       exact (g57 trivial).elim
     ·
      try simp only [Ya, Yb, Yc, Yd, Ye, Yf] at g52
      simp at g52
    ·
     try simp only [Ya, Yb, Yc, Yd, Ye, Yf] at g47
     exact (g47 trivial).elim
   ·
    try simp only [Ya, Yb, Yc, Yd, Ye, Yf] at g42
    simp at g42
  rintro  w10 hM
  refine C.ret <| ret1 rfl rfl ?_
  exact ⟨rfl, hM.toExt⟩
end Go.Proofs.Ytbinlkobmlebpaa
