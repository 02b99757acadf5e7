/- finder: a code is signed. -/
import Derived.Test.Ytbinlkobmlebpaax0
import Derived.Test.YtbinlkobmlebpaaFd37x
import Derived.Test.YtbinlkobmlebpaaFd42x
set_option linter.unusedSimpArgs false
set_option linter.unusedVariables false
namespace Go.Proofs.Ytbinlkobmlebpaa
open Go.RowKit Sym
open Fi
theorem version8_ret (u : Nat) (w : World) (hu : u ≤ 6) :
  Ret Try.prog 58 #[i64 u] w fun v w' => ∃ e : Int, v = .tuple #[i64 0, i64 e] ∧ Ext w w' := by
 have hM := M.start w
 refine enter Try.func58 rfl (by kernel_rfl) Try.ntmps58 rfl ?_
 refine C.seq <| C.region <| E.asg rfl rfl <| E.asg rfl rfl <| E.nil <| X.next <| C.seq <| ?_

 refine C.chainE [(0, _)] rfl [(9, .bool (decide ((u : Int) < 7)))] ?_ ?_
 ·
  refine C.region <| E.mv rfl rfl <| E.bin rfl rfl rfl rfl <| E.mv rfl rfl <| ?_
  refine E.split 6 rfl (fun g6 => ?_) (fun g6 => ?_)
  ·
   try simp only [Ya, Yb, Yc, Yd, Ye, Yf] at g6
   refine E.off rfl rfl rfl rfl <| E.off rfl rfl rfl rfl <| E.pick rfl rfl rfl <| E.nil <| X.join0 (Sub.cons (look_eq rfl (congrArg Value.bool (by exact (decide_eq_true (by omega)).symm))) <| Sub.nil _) rfl rfl
  ·
   try simp only [Ya, Yb, Yc, Yd, Ye, Yf] at g6
   refine E.on rfl rfl (E.mv rfl rfl ?_)
   refine E.on rfl rfl (E.bin rfl rfl rfl rfl ?_)
   refine E.pick rfl rfl rfl <| E.nil <| X.join0 (Sub.cons (look_eq rfl (congrArg Value.bool (by exact decide_eq_decide.2 ⟨fun h => by omega, fun h => by omega⟩))) <| Sub.nil _) rfl rfl
 refine C.cond' rfl (fun hC0 => ?_) (fun hC0 => ?_)
 ·
  refine C.seq <| C.region <| E.asg rfl rfl <| E.asg rfl rfl <| E.nil <| X.next <| C.ret <| X.retT <| ret2 rfl rfl rfl ?_
  exact ⟨_, rfl, hM.toExt⟩
 ·
  exact absurd (show (u : Int) < 7 by omega) hC0
set_option maxHeartbeats 4000000 in
set_option maxRecDepth 20000 in
theorem sign_ret (u n : Nat) (vd : Value) (dk : List Bool) (lv : Int) (w : World) (hu : 1 ≤ u ∧ u ≤ 6) (hn : n = 17 + 4 * u) (hr : RdL Value.bool w vd dk) (hm : MI n (n * n) dk) :
  Ret Try.prog 21 #[mat n n vd, i64 lv, i64 3] w fun v w' => MtV n w w' v := by
 have hM := M.start w
 refine enter Try.func21 rfl (by kernel_rfl) Try.ntmps21 rfl ?_
 refine C.seq <| C.region <| ?_
 refine E.boxM (cs := [i64 n, i64 n, vd]) hM rfl (by obtain ⟨a, cap, rfl, _⟩ := hr; rfl) rfl ?_
 intro b3 w0 hM
 try dsimp only [Za, Zb, Zc, Zd, repl] at hM
 refine E.allocM (z := .agg #[.int .i64 0, .int .i64 0, .slice none 0 0]) (cs := [.int .i64 0, .int .i64 0, .slice none 0 0]) hM (by kernel_rfl) rfl rfl ?_
 intro b6 w1 hM
 try dsimp only [Za, Zb, Zc, Zd, repl] at hM
 refine E.asg rfl rfl <| E.nil <| X.next <| C.seq <| C.region <| ?_
 refine E.loadA (cs := [i64 n, i64 n, vd]) rfl Try.underlying37 rfl (by kernel_rfl) (hM.bat 0 rfl) rfl ?_
 refine E.call rfl rfl (Version_ret n vd dk u _ (hM.arg0 hr) hn hu hm.1) ?_
 rintro _ w2 ⟨rfl, x2⟩
 have hM := hM.ext x2
 have hnn : n * n ≤ 41 * 41 := Nat.mul_le_mul (by omega) (by omega)
 have hn1 : 1 ≤ n := by omega
 try dsimp only [Za, Zb, Zc, Zd, repl] at hM
 refine E.mv rfl rfl <| E.ext rfl rfl rfl <| E.ext rfl rfl rfl <| E.asg rfl rfl <| E.asg rfl rfl <| E.nil <| X.next <| C.seq <| C.seq <| C.region <| E.mv rfl rfl <| E.bin rfl rfl rfl rfl <| E.nil <| X.next <| ?_
 refine C.cond' rfl (fun hC0 => ?_) (fun hC0 => ?_)
 ·
  exact (hC0 rfl).elim
 ·
  refine C.skip <| X.next <| C.seq <| ?_

  refine C.chainE [(1, _), (2, _), (3, _), (6, _), (8, _)] rfl [(34, .bool (decide (lv < 1 ∨ 4 < lv)))] ?_ ?_
  ·
   refine C.region <| E.mv rfl rfl <| E.bin rfl rfl rfl rfl <| E.mv rfl rfl <| ?_
   refine E.split 31 rfl (fun g31 => ?_) (fun g31 => ?_)
   ·
    try simp only [Ya, Yb, Yc, Yd, Ye, Yf] at g31
    refine E.off rfl rfl rfl rfl <| E.off rfl rfl rfl rfl <| E.pick rfl rfl rfl <| E.nil <| X.join0 (Sub.cons (look_eq rfl (congrArg Value.bool (by exact (decide_eq_true (by omega)).symm))) <| Sub.nil _) rfl rfl
   ·
    try simp only [Ya, Yb, Yc, Yd, Ye, Yf] at g31
    refine E.on rfl rfl (E.mv rfl rfl ?_)
    refine E.on rfl rfl (E.bin rfl rfl rfl rfl ?_)
    refine E.pick rfl rfl rfl <| E.nil <| X.join0 (Sub.cons (look_eq rfl (congrArg Value.bool (by exact decide_eq_decide.2 ⟨fun h => by omega, fun h => by omega⟩))) <| Sub.nil _) rfl rfl
  refine C.cond' rfl (fun hC1 => ?_) (fun hC1 => ?_)
  ·
   refine C.seq <| C.region <| ?_
   refine E.buildC (cs := [_, _, _]) [.int .i64 0, .int .i64 0, .slice none 0 0] [] rfl rfl (by kernel_rfl) rfl ?_
   refine E.storeAM 1 (cs := [i64 0, i64 0, .slice none 0 0]) hM rfl rfl rfl (by kernel_rfl) rfl (ones rfl <| ones rfl <| ones rfl <| ones_nil) ?_
   intro w3 hM
   try dsimp only [Za, Zb, Zc, Zd, repl] at hM
   refine E.asg rfl rfl <| E.nil <| X.next <| C.ret <| X.retT <| retAT rfl rfl rfl Try.underlying37 rfl (by exact hM.blk 1 rfl) (by kernel_rfl) ?_
   exact MtV.err hM.toExt (by decide)
  ·
   refine C.skip <| X.next <| C.seq <| ?_

   refine C.chainE [(1, _), (2, _), (3, _), (6, _), (8, _)] rfl [(41, .bool (decide False))] ?_ ?_
   ·
    refine C.region <| E.mv rfl rfl <| E.bin rfl rfl rfl rfl <| E.mv rfl rfl <| ?_
    refine E.split 38 rfl (fun g38 => ?_) (fun g38 => ?_)
    ·
     try simp only [Ya, Yb, Yc, Yd, Ye, Yf] at g38
     refine E.off rfl rfl rfl rfl <| E.off rfl rfl rfl rfl <| E.pick rfl rfl rfl <| E.nil <| X.join0 (Sub.cons (look_eq rfl (congrArg Value.bool (by (exfalso; omega)))) <| Sub.nil _) rfl rfl
    ·
     try simp only [Ya, Yb, Yc, Yd, Ye, Yf] at g38
     refine E.on rfl rfl (E.mv rfl rfl ?_)
     refine E.on rfl rfl (E.bin rfl rfl rfl rfl ?_)
     refine E.pick rfl rfl rfl <| E.nil <| X.join0 (Sub.cons (look_eq rfl (congrArg Value.bool (by rfl))) <| Sub.nil _) rfl rfl
   refine C.cond' rfl (fun hC2 => ?_) (fun hC2 => ?_)
   ·
    cases hC2
   ·
    refine C.skip <| X.next <| C.seq <| C.region <| ?_
    refine E.loadA (cs := [i64 n, i64 n, vd]) rfl Try.underlying37 rfl (by kernel_rfl) (hM.bat 0 rfl) rfl ?_
    refine E.call rfl rfl (copy_ret n n vd dk _ (hM.arg0 hr) (by rw [hm.1]; omega)) ?_
    rintro _ w6 ⟨vo, rfl, m6⟩
    have hM := hM.call m6
    try dsimp only [Za, Zb, Zc, Zd, repl] at hM
    refine E.allocM (z := .agg #[.int .i64 0, .int .i64 0, .slice none 0 0]) (cs := [.int .i64 0, .int .i64 0, .slice none 0 0]) hM (by kernel_rfl) rfl rfl ?_
    intro b10 w5 hM
    try dsimp only [Za, Zb, Zc, Zd, repl] at hM
    refine E.storeAM 3 (cs := [i64 n, i64 n, vo]) hM rfl rfl rfl (by kernel_rfl) rfl (ones rfl <| ones rfl <| ones (by obtain ⟨a, c, rfl⟩ := Rd.shape (hM.sl 2 rfl); rfl) <| ones_nil) ?_
    intro w6 hM
    try dsimp only [Za, Zb, Zc, Zd, repl] at hM
    refine E.nil <| X.next <| C.seq <| C.region <| E.mv rfl rfl <| E.mv rfl rfl <| ?_
    refine E.call rfl rfl (format_ret lv _) ?_
    rintro _ w9 ⟨q, e9, rfl, hq, x9⟩
    have hM := hM.ext x9
    try dsimp only [Za, Zb, Zc, Zd, repl] at hM
    refine E.mv rfl rfl <| E.ext rfl rfl rfl <| E.ext rfl rfl rfl <| E.asg rfl rfl <| E.asg rfl rfl <| E.nil <| X.next <| C.seq <| C.region <| E.mv rfl rfl <| ?_
    refine E.call rfl rfl (version8_ret u _ hu.2) ?_
    rintro _ w10 ⟨e10, rfl, x10⟩
    have hM := hM.ext x10
    try dsimp only [Za, Zb, Zc, Zd, repl] at hM
    refine E.mv rfl rfl <| E.ext rfl rfl rfl <| E.ext rfl rfl rfl <| E.asg rfl rfl <| E.asg rfl rfl <| E.nil <| X.next <| C.seq <| C.seq <| C.region <| E.asg rfl rfl <| E.nil <| X.next <| C.block <| ?_

    refine C.loop2 [(3, _), (6, _), (8, _), (10, _), (11, _), (13, _)] rfl (fun (cp : Nat) (l : LBn) => [(15, i64 cp)]) (fun (cp : Nat) (l : LBn) w' => M w (Nn) w' [Rg.blk b3 37 [i64 n, i64 n, vd], Rg.blk b6 37 [i64 0, i64 0, .slice none 0 0], Rg.sl Value.bool 4 vo l, Rg.blk b10 37 [i64 n, i64 n, vo]] ∧ cp ≤ 2 ∧ MI n (n * n) l) (fun (cp : Nat) (l : LBn) => 2 - cp) 0 dk ?_ ?_ ?_
    · exact Sub.cons rfl <| Sub.nil _
    · exact ⟨hM, Nat.zero_le _, hm⟩
    rintro cp l w9 ⟨hM, hcp, hI⟩
    refine C.seq <| C.seq <| C.region <| E.mv rfl rfl <| E.bin rfl rfl rfl rfl <| E.nil <| X.next <| ?_
    refine C.cond' rfl (fun hC3 => ?_) (fun hC3 => ?_)
    ·
     have hcp' : cp < 2 := by omega
     refine C.skip <| X.next <| C.seq <| C.block <| C.seq <| C.seq <| C.region <| E.asg rfl rfl <| E.nil <| X.next <| C.block <| ?_

     refine C.loop2 [(3, _), (6, _), (8, _), (10, _), (11, _), (13, _), (15, _)] rfl (fun (i : Nat) (l : LBn) => [(16, i64 i)]) (fun (i : Nat) (l : LBn) w' => M w (Nn) w' [Rg.blk b3 37 [i64 n, i64 n, vd], Rg.blk b6 37 [i64 0, i64 0, .slice none 0 0], Rg.sl Value.bool 4 vo l, Rg.blk b10 37 [i64 n, i64 n, vo]] ∧ i ≤ 15 ∧ MI n (n * n) l) (fun (i : Nat) (l : LBn) => 15 - i) 0 l ?_ ?_ ?_
     · exact Sub.cons rfl <| Sub.nil _
     · exact ⟨hM, Nat.zero_le _, hI⟩
     rintro i l w10 ⟨hM, hi, hJ⟩
     refine C.seq <| C.seq <| C.region <| E.mv rfl rfl <| E.bin rfl rfl rfl rfl <| E.nil <| X.next <| ?_
     refine C.cond' rfl (fun hC4 => ?_) (fun hC4 => ?_)
     ·
      have hi' : i < 15 := by omega
      refine C.skip <| X.next <| C.seq <| C.block <| C.seq <| C.region <| ?_
      refine E.fld (o := 0) (sz := 0) rfl Try.underlying37 rfl rfl (by kernel_rfl) rfl ?_
      refine E.load rfl Try.underlying3 rfl (hM.bcell 0 rfl rfl) rfl ?_
      refine E.mv rfl rfl <| E.mv rfl rfl <| ?_
      refine E.call rfl rfl (formatAt_ret n cp i _ (by omega) (by omega) (by omega)) ?_
      rintro _ w13 ⟨za, zb, rfl, hab, hzz, x13⟩
      have hM := hM.ext x13
      obtain ⟨cx, rfl⟩ : ∃ cx : Nat, za = cx := ⟨za.toNat, by omega⟩
      obtain ⟨cy, rfl⟩ : ∃ cy : Nat, zb = cy := ⟨zb.toNat, by omega⟩
      have hX : cx < n := by omega
      have hY : cy < n := by omega
      have hin : cy * n + cx < n * n := by
       have h1 := Nat.mul_le_mul_right n (show cy + 1 ≤ n by omega)
       rw [Nat.add_mul, Nat.one_mul] at h1; omega
      have hll := hJ.1
      have hYn : cy * n ≤ 41 * 41 := by omega
      try dsimp only [Za, Zb, Zc, Zd, repl] at hM
      refine E.allocM (z := .agg #[.int .i64 0, .int .i64 0]) (cs := [.int .i64 0, .int .i64 0]) hM (by kernel_rfl) rfl rfl ?_
      intro b17 w12 hM
      try dsimp only [Za, Zb, Zc, Zd, repl] at hM
      refine E.storeAM 4 (cs := [i64 cx, i64 cy]) hM rfl rfl rfl (by kernel_rfl) rfl (ones rfl <| ones rfl <| ones_nil) ?_
      intro w13 hM
      try dsimp only [Za, Zb, Zc, Zd, repl] at hM
      refine E.nil <| X.next <| C.region <| ?_
      refine E.fld (o := 2) (sz := 0) rfl Try.underlying37 rfl rfl (by kernel_rfl) rfl ?_
      refine E.load rfl Try.underlying35 rfl (hM.bcell 3 rfl rfl) rfl ?_
      refine E.fld (o := 1) (sz := 0) rfl Try.underlying64 rfl rfl (by kernel_rfl) rfl ?_
      refine E.load rfl Try.underlying3 rfl (hM.bcell 4 rfl rfl) rfl ?_
      refine E.fld (o := 0) (sz := 0) rfl Try.underlying37 rfl rfl (by kernel_rfl) rfl ?_
      refine E.load rfl Try.underlying3 rfl (hM.bcell 0 rfl rfl) rfl ?_
      refine E.mulN (a := cy) (b := n) rfl rfl (by omega) rfl ?_
      refine E.fld (o := 0) (sz := 0) rfl Try.underlying64 rfl rfl (by kernel_rfl) rfl ?_
      refine E.load rfl Try.underlying3 rfl (hM.bcell 4 rfl rfl) rfl ?_
      refine E.addN (a := cy * n) (b := cx) rfl rfl (by omega) rfl ?_
      refine E.mv rfl rfl <| E.mv rfl rfl <| ?_
      refine E.conv rfl Try.underlying3 Try.underlying100 (IntWalk.u64_in _ (by omega)) rfl ?_
      refine E.shr rfl rfl (by omega) rfl rfl ?_
      refine E.bin rfl rfl rfl rfl <| E.bin rfl rfl rfl rfl <| ?_
      refine E.idx1 (k := cy * n + cx) rfl rfl (hM.sl 2 rfl) rfl (by omega) Try.underlying35 (by kernel_rfl) rfl ?_
      refine E.storeL 2 _ hM rfl rfl rfl (by kernel_rfl) rfl rfl (by omega) ?_
      intro w14 hM
      try dsimp only [Za, Zb, Zc, Zd, repl] at hM
      refine E.nil <| X.outN <| X.next <| C.region <| E.mv rfl rfl <| ?_
      refine E.addN (a := i) (b := 1) rfl rfl (by omega) rfl ?_

      refine E.asg rfl rfl <| E.nil <| X.again2 (i + 1) _ (Sub.cons rfl <| Sub.nil _) rfl ⟨hM.pick [0, 1, 2, 3] (by decide), by omega, hJ.put hX hzz _⟩ (by omega)
     ·
      refine C.exit <| X.exitT <| X.exitT <| X.outE <| X.next <| C.seq <| C.region <| E.asg rfl rfl <| E.nil <| X.next <| C.block <| ?_

      refine C.loop1 [(3, _), (6, _), (8, _), (10, _), (11, _), (13, _), (15, _)] rfl (fun (i2 : Nat) => [(18, i64 i2)]) (fun (i2 : Nat) w' => M w (Nn) w' [Rg.blk b3 37 [i64 n, i64 n, vd], Rg.blk b6 37 [i64 0, i64 0, .slice none 0 0], Rg.sl Value.bool 4 vo l, Rg.blk b10 37 [i64 n, i64 n, vo]] ∧ i2 = 0) (fun (i2 : Nat) => 1) 0 ?_ ?_ ?_
      · exact Sub.cons rfl <| Sub.nil _
      · exact ⟨hM, rfl⟩
      rintro i2 w15 ⟨hM, hi2⟩
      refine C.seq <| ?_

      refine C.chainE [(3, _), (6, _), (8, _), (10, _), (11, _), (13, _), (15, _), (18, _)] rfl [(91, .bool (decide False))] ?_ ?_
      ·
       refine C.region <| E.mv rfl rfl <| E.bin rfl rfl rfl rfl <| E.mv rfl rfl <| ?_
       refine E.split 88 rfl (fun g88 => ?_) (fun g88 => ?_)
       ·
        try simp only [Ya, Yb, Yc, Yd, Ye, Yf] at g88
        refine E.on rfl rfl (E.mv rfl rfl ?_)
        refine E.on rfl rfl (E.bin rfl rfl rfl rfl ?_)
        refine E.pick rfl rfl rfl <| E.nil <| X.join0 (Sub.cons (look_eq rfl (congrArg Value.bool (by (exfalso; omega)))) <| Sub.nil _) rfl rfl
       ·
        try simp only [Ya, Yb, Yc, Yd, Ye, Yf] at g88
        refine E.off rfl rfl rfl rfl <| E.off rfl rfl rfl rfl <| E.pick rfl rfl rfl <| E.nil <| X.join0 (Sub.cons (look_eq rfl (congrArg Value.bool (by rfl))) <| Sub.nil _) rfl rfl
      refine C.cond' rfl (fun hC5 => ?_) (fun hC5 => ?_)
      ·
       cases hC5
      ·
       refine C.exit <| X.exitT <| X.exitT <| X.outE <| X.outN <| X.next <| C.region <| E.mv rfl rfl <| ?_
       refine E.addN (a := cp) (b := 1) rfl rfl (by omega) rfl ?_

       refine E.asg rfl rfl <| E.nil <| X.again2 (cp + 1) _ (Sub.cons rfl <| Sub.nil _) rfl ⟨hM, by omega, hJ⟩ (by omega)
    ·
     refine C.exit <| X.exitT <| X.exitT <| X.outE <| X.next <| C.seq <| C.region <| ?_
     refine E.loadA (cs := [i64 n, i64 n, vo]) rfl Try.underlying37 rfl (by kernel_rfl) (hM.bat 3 rfl) rfl ?_
     refine E.storeAM 1 (cs := [i64 n, i64 n, vo]) hM rfl rfl rfl (by kernel_rfl) rfl (ones rfl <| ones rfl <| ones (by obtain ⟨a, c, rfl⟩ := Rd.shape (hM.sl 2 rfl); rfl) <| ones_nil) ?_
     intro w16 hM
     try dsimp only [Za, Zb, Zc, Zd, repl] at hM
     refine E.asg rfl rfl <| E.nil <| X.next <| C.ret <| retAT rfl rfl rfl Try.underlying37 rfl (by exact hM.blk 1 rfl) (by kernel_rfl) ?_
     exact ⟨n, n, 0, vo, l, rfl, fun _ => ⟨rfl, rfl, hI⟩, hM.pick [2] (by decide)⟩
end Go.Proofs.Ytbinlkobmlebpaa
