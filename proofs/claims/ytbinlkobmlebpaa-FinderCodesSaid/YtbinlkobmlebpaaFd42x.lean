/- finder: a code is filled. -/
import Derived.Test.Ytbinlkobmlebpaax0
import Derived.Test.YtbinlkobmlebpaaFd41x
set_option linter.unusedSimpArgs false
set_option linter.unusedVariables false
namespace Go.Proofs.Ytbinlkobmlebpaa
open Go.RowKit Sym
open Fi
theorem MI.put {n X Y : Nat} {l : List Bool} (h : MI n (n * n) l) (hX : X < n) (hz : ¬ zn (n : Int) (X : Int) (Y : Int)) (o : Bool) : MI n (n * n) (l.set (Y * n + X) o) := by
  refine ⟨by rw [List.length_set]; exact h.1, fun k hk hkn hzk => ?_⟩
  by_cases e : Y * n + X = k
  · subst e
    rw [show (Y * n + X) % n = X by rw [Nat.add_comm, Nat.add_mul_mod_self_right, Nat.mod_eq_of_lt hX], show (Y * n + X) / n = Y by rw [Nat.add_comm, Nat.add_mul_div_right _ _ (by omega), Nat.div_eq_of_lt hX, Nat.zero_add]] at hzk
    exact (hz hzk).elim
  · rw [List.getD_eq_getElem?_getD, List.getElem?_set_ne e, ← List.getD_eq_getElem?_getD]; exact h.2 k hk hkn hzk
def MtV (n : Nat) (w w' : World) (v : Value) : Prop := ∃ (a b e : Int) (vo : Value) (l : List Bool), v = .tuple #[mat a b vo, i64 e] ∧ (e = 0 → a = n ∧ b = n ∧ MI n (n * n) l) ∧ M w Nn w' [Rg.sl Value.bool 4 vo l]
theorem MtV.err {n : Nat} {w w' : World} {e : Int} (x : Ext w w') (h : e ≠ 0) : MtV n w w' (.tuple #[mat 0 0 nls, i64 e]) := ⟨0, 0, e, nls, [], rfl, fun q => (h q).elim, (M.ofExt x).nil Value.bool 4⟩
set_option maxHeartbeats 4000000 in
set_option maxRecDepth 20000 in
theorem fill_ret (u n : Nat) (vd p : Value) (dk : List Bool) (ws : List Int) (w : World) (hu : 1 ≤ u ∧ u ≤ 6) (hn : n = 17 + 4 * u) (hr : RdL Value.bool w vd dk) (hm : MI n (n * n) dk) (hp : RdL i64 w p ws) :
  Ret Try.prog 20 #[mat n n vd, p] w fun v w' => MtV n w w' v := by
 have hM := M.start w
 refine enter Try.func20 rfl (by kernel_rfl) Try.ntmps20 rfl ?_
 refine C.seq <| C.region <| ?_
 refine E.boxM (cs := [i64 n, i64 n, vd]) hM rfl (by obtain ⟨a, cap, rfl, _⟩ := hr; rfl) rfl ?_
 intro b2 w0 hM
 try dsimp only [Za, Zb, Zc, Zd, repl] at hM
 refine E.allocM (z := .agg #[.int .i64 0, .int .i64 0, .slice none 0 0]) (cs := [.int .i64 0, .int .i64 0, .slice none 0 0]) hM (by kernel_rfl) rfl rfl ?_
 intro b4 w1 hM
 try dsimp only [Za, Zb, Zc, Zd, repl] at hM
 refine E.asg rfl rfl <| E.nil <| X.next <| C.seq <| C.region <| ?_
 refine E.loadA (cs := [i64 n, i64 n, vd]) rfl Try.underlying37 rfl (by kernel_rfl) (hM.bat 0 rfl) rfl ?_
 refine E.call rfl rfl (Version_ret n vd dk u _ (hM.arg0 hr) hn hu hm.1) ?_
 rintro _ w2 ⟨rfl, x2⟩
 have hM := hM.ext x2
 have hnn : n * n ≤ 41 * 41 := Nat.mul_le_mul (by omega) (by omega)
 have hn1 : 1 ≤ n := by omega
 try dsimp only [Za, Zb, Zc, Zd, repl] at hM
 refine E.mv rfl rfl <| E.ext rfl rfl rfl <| E.ext rfl rfl rfl <| E.asg rfl rfl <| E.asg rfl rfl <| E.nil <| X.next <| C.seq <| C.seq <| C.region <| E.mv rfl rfl <| E.bin rfl rfl rfl rfl <| E.nil <| X.next <| ?_
 refine C.cond' rfl (fun hC0 => ?_) (fun hC0 => ?_)
 ·
  exact (hC0 rfl).elim
 ·
  refine C.skip <| X.next <| C.seq <| C.region <| E.mv rfl rfl <| ?_
  refine E.call rfl rfl (codewords_ret u _ hu) ?_
  rintro _ w4 ⟨nc, rc, rfl, hnc, x4⟩
  have hM := hM.ext x4
  try dsimp only [Za, Zb, Zc, Zd, repl] at hM
  refine E.mv rfl rfl <| E.ext rfl rfl rfl <| E.ext rfl rfl rfl <| E.ext rfl rfl rfl <| E.asg rfl rfl <| E.asg rfl rfl <| E.asg rfl rfl <| E.nil <| X.next <| C.seq <| C.seq <| C.region <| E.mv rfl rfl <| ?_
  refine E.lenv rfl (Rd.shape (hM.arg0 hp)) Try.underlying45 rfl ?_
  refine E.mv rfl rfl <| E.bin rfl rfl rfl rfl <| E.nil <| X.next <| ?_
  refine C.cond' rfl (fun hC1 => ?_) (fun hC1 => ?_)
  ·
   refine C.seq <| C.region <| ?_
   refine E.buildC (cs := [_, _, _]) [.int .i64 0, .int .i64 0, .slice none 0 0] [] rfl rfl (by kernel_rfl) rfl ?_
   refine E.storeAM 1 (cs := [i64 0, i64 0, .slice none 0 0]) hM rfl rfl rfl (by kernel_rfl) rfl (ones rfl <| ones rfl <| ones rfl <| ones_nil) ?_
   intro w4 hM
   try dsimp only [Za, Zb, Zc, Zd, repl] at hM
   refine E.asg rfl rfl <| E.nil <| X.next <| C.ret <| X.retT <| retAT rfl rfl rfl Try.underlying37 rfl (by exact hM.blk 1 rfl) (by kernel_rfl) ?_
   exact MtV.err hM.toExt (by decide)
  ·
   have hwl : ws.length ≤ 10000 := by omega
   refine C.skip <| X.next <| C.seq <| C.region <| E.mv rfl rfl <| ?_
   refine E.call rfl rfl (fromWords_ret p ws _ (hM.arg0 hp) hwl) ?_
   rintro _ w6 ⟨vb, bits, ef, rfl, hbl, m6⟩
   have hM := hM.call m6
   try dsimp only [Za, Zb, Zc, Zd, repl] at hM
   refine E.mv rfl rfl <| E.ext rfl rfl rfl <| E.ext rfl rfl rfl <| E.asg rfl rfl <| E.asg rfl rfl <| E.nil <| X.next <| C.seq <| C.seq <| C.region <| E.mv rfl rfl <| E.bin rfl rfl rfl rfl <| E.nil <| X.next <| ?_
   refine C.cond' rfl (fun hC2 => ?_) (fun hC2 => ?_)
   ·
    refine C.seq <| C.region <| ?_
    refine E.buildC (cs := [_, _, _]) [.int .i64 0, .int .i64 0, .slice none 0 0] [] rfl rfl (by kernel_rfl) rfl ?_
    refine E.mv rfl rfl <| ?_
    refine E.storeAM 1 (cs := [i64 0, i64 0, .slice none 0 0]) hM rfl rfl rfl (by kernel_rfl) rfl (ones rfl <| ones rfl <| ones rfl <| ones_nil) ?_
    intro w6 hM
    try dsimp only [Za, Zb, Zc, Zd, repl] at hM
    refine E.asg rfl rfl <| E.nil <| X.next <| C.ret <| X.retT <| retAT rfl rfl rfl Try.underlying37 rfl (by exact hM.blk 1 rfl) (by kernel_rfl) ?_
    exact MtV.err hM.toExt hC2
   ·
    refine C.skip <| X.next <| C.seq <| C.region <| ?_
    refine E.loadA (cs := [i64 n, i64 n, vd]) rfl Try.underlying37 rfl (by kernel_rfl) (hM.bat 0 rfl) rfl ?_
    refine E.call rfl rfl (copy_ret n n vd dk _ (hM.arg0 hr) (by rw [hm.1]; omega)) ?_
    rintro _ w8 ⟨vo, rfl, m8⟩
    have hM := hM.call m8
    try dsimp only [Za, Zb, Zc, Zd, repl] at hM
    refine E.allocM (z := .agg #[.int .i64 0, .int .i64 0, .slice none 0 0]) (cs := [.int .i64 0, .int .i64 0, .slice none 0 0]) hM (by kernel_rfl) rfl rfl ?_
    intro b13 w8 hM
    try dsimp only [Za, Zb, Zc, Zd, repl] at hM
    refine E.storeAM 4 (cs := [i64 n, i64 n, vo]) hM rfl rfl rfl (by kernel_rfl) rfl (ones rfl <| ones rfl <| ones (by obtain ⟨a, c, rfl⟩ := Rd.shape (hM.sl 3 rfl); rfl) <| ones_nil) ?_
    intro w9 hM
    try dsimp only [Za, Zb, Zc, Zd, repl] at hM
    refine E.nil <| X.next <| C.seq <| C.region <| E.mv rfl rfl <| ?_
    refine E.call rfl rfl (path_ret u n _ hu hn) ?_
    rintro _ w11 ⟨vp, pl, rfl, hP, hpl, m11⟩
    have hM := hM.call m11
    try dsimp only [Za, Zb, Zc, Zd, repl] at hM
    refine E.mv rfl rfl <| E.ext rfl rfl rfl <| E.ext rfl rfl rfl <| E.asg rfl rfl <| E.asg rfl rfl <| E.nil <| X.next <| C.seq <| C.seq <| C.region <| E.asg rfl rfl <| E.nil <| X.next <| C.block <| ?_

    refine C.loop2 [(2, _), (4, _), (11, _), (13, _), (14, _)] rfl (fun (i : Nat) (l : LBn) => [(16, i64 i)]) (fun (i : Nat) (l : LBn) w' => M w (Nn) w' [Rg.blk b2 37 [i64 n, i64 n, vd], Rg.blk b4 37 [i64 0, i64 0, .slice none 0 0], Rg.sl Value.bool 4 vb bits, Rg.sl Value.bool 4 vo l, Rg.blk b13 37 [i64 n, i64 n, vo], Rg.slF pe 2 64 vp pl] ∧ i ≤ pl.length ∧ MI n (n * n) l) (fun (i : Nat) (l : LBn) => pl.length - i) 0 dk ?_ ?_ ?_
    · exact Sub.cons rfl <| Sub.nil _
    · exact ⟨hM, Nat.zero_le _, hm⟩
    rintro i l w11 ⟨hM, hi, hI⟩
    refine C.seq <| C.seq <| C.region <| E.mv rfl rfl <| E.mv rfl rfl <| ?_
    refine E.lenv rfl (RdF.shape (hM.slF 5 rfl)) Try.underlying95 rfl ?_
    refine E.bin rfl rfl rfl rfl <| E.nil <| X.next <| ?_
    refine C.cond' rfl (fun hC3 => ?_) (fun hC3 => ?_)
    ·
     have hi' : i < pl.length := by omega
     obtain ⟨cx, cy, hXY, hX, hY, hz⟩ : ∃ cx cy : Nat, pl[i] = ((cx : Int), (cy : Int)) ∧ cx < n ∧ cy < n ∧ ¬ zn (n : Int) cx cy := by
      have h := hP _ (List.getElem_mem hi')
      refine ⟨pl[i].1.toNat, pl[i].2.toNat, Prod.ext (by simp only; omega) (by simp only; omega), by omega, by omega, ?_⟩
      rw [show ((pl[i].1.toNat : Nat) : Int) = pl[i].1 by omega, show ((pl[i].2.toNat : Nat) : Int) = pl[i].2 by omega]; exact h.2.2.2.2
     have h1x : pl[i].1 = (cx : Int) := by rw [hXY]
     have h1y : pl[i].2 = (cy : Int) := by rw [hXY]
     have hin : cy * n + cx < n * n := by
      have h1 := Nat.mul_le_mul_right n (show cy + 1 ≤ n by omega)
      rw [Nat.add_mul, Nat.one_mul] at h1; omega
     have hll := hI.1
     have hYn : cy * n ≤ 41 * 41 := by omega
     refine C.skip <| X.next <| C.seq <| C.block <| C.drawnT 27 (by kernel_rfl) (by kernel_rfl) fun wh12 hwh12 => ?_
     have hM := hM.ext hwh12
     refine S.fld (o := 2) (sz := 0) rfl Try.underlying37 rfl rfl (by kernel_rfl) rfl ?_
     refine S.load rfl Try.underlying35 rfl (hM.bcell 4 rfl rfl) rfl ?_
     refine S.mv rfl rfl <| S.mv rfl rfl <| ?_
     refine S.idxF (k := i) rfl rfl (hM.slF 5 rfl) rfl hi' (by decide) Try.underlying95 (by kernel_rfl) rfl ?_
     refine S.fld (o := 1) (sz := 0) rfl Try.underlying64 rfl rfl (by kernel_rfl) rfl ?_
     refine S.load rfl Try.underlying3 rfl ((hM.slF 5 rfl).atA (k := i) (o := 1) rfl hi' rfl) rfl ?_
     rw [h1y]
     refine S.fld (o := 0) (sz := 0) rfl Try.underlying37 rfl rfl (by kernel_rfl) rfl ?_
     refine S.load rfl Try.underlying3 rfl (hM.bcell 0 rfl rfl) rfl ?_
     refine S.mulN (a := cy) (b := n) rfl rfl (by omega) rfl ?_
     refine S.mv rfl rfl <| S.mv rfl rfl <| ?_
     refine S.idxF (k := i) rfl rfl (hM.slF 5 rfl) rfl hi' (by decide) Try.underlying95 (by kernel_rfl) rfl ?_
     refine S.fld (o := 0) (sz := 0) rfl Try.underlying64 rfl rfl (by kernel_rfl) rfl ?_
     refine S.load rfl Try.underlying3 rfl ((hM.slF 5 rfl).atA (k := i) (o := 0) rfl hi' rfl) rfl ?_
     rw [h1x]
     refine S.addN (a := cy * n) (b := cx) rfl rfl (by omega) rfl ?_
     refine S.mv rfl rfl <| S.mv rfl rfl <| ?_
     refine S.lenv rfl (Rd.shape (hM.sl 2 rfl)) Try.underlying35 rfl ?_
     refine S.bin rfl rfl rfl rfl <| S.mv rfl rfl <| ?_
     refine S.split 79 rfl (fun g79 => ?_) (fun g79 => ?_)
     ·
      try simp only [Ya, Yb, Yc, Yd, Ye, Yf] at g79
      refine S.on rfl rfl (S.mv rfl rfl ?_)
      refine S.on rfl rfl (S.mv rfl rfl ?_)
      refine S.on rfl rfl (S.idx1 (k := i) rfl rfl (hM.sl 2 rfl) rfl (by omega) Try.underlying35 (by kernel_rfl) rfl ?_)
      refine S.on rfl rfl (S.load rfl Try.underlying4 rfl ((hM.sl 2 rfl).cellA rfl (show i < bits.length by omega)) rfl ?_)
      refine S.pick rfl rfl rfl <| ?_
      refine S.idx1 (k := cy * n + cx) rfl rfl (hM.sl 3 rfl) rfl (by omega) Try.underlying35 (by kernel_rfl) rfl ?_
      refine S.nil ?_
      refine E.storeL 3 (bits[i]'(by omega)) hM rfl rfl rfl (by kernel_rfl) rfl rfl (by omega) ?_
      intro w13 hM
      try dsimp only [Za, Zb, Zc, Zd, repl] at hM
      refine E.nil <| X.outN <| X.next <| C.region <| E.mv rfl rfl <| ?_
      refine E.addN (a := i) (b := 1) rfl rfl (by omega) rfl ?_

      refine E.asg rfl rfl <| E.nil <| X.again2 (i + 1) _ (Sub.cons rfl <| Sub.nil _) rfl ⟨hM, by omega, hI.put hX hz _⟩ (by omega)
     ·
      try simp only [Ya, Yb, Yc, Yd, Ye, Yf] at g79
      refine S.off rfl rfl rfl rfl <| S.off rfl rfl rfl rfl <| S.off rfl rfl rfl rfl <| S.off rfl rfl rfl rfl <| S.pick rfl rfl rfl <| ?_
      refine S.idx1 (k := cy * n + cx) rfl rfl (hM.sl 3 rfl) rfl (by omega) Try.underlying35 (by kernel_rfl) rfl ?_
      refine S.nil ?_
      refine E.storeL 3 false hM rfl rfl rfl (by kernel_rfl) rfl rfl (by omega) ?_
      intro w14 hM
      try dsimp only [Za, Zb, Zc, Zd, repl] at hM
      refine E.nil <| X.outN <| X.next <| C.region <| E.mv rfl rfl <| ?_
      refine E.addN (a := i) (b := 1) rfl rfl (by omega) rfl ?_

      refine E.asg rfl rfl <| E.nil <| X.again2 (i + 1) _ (Sub.cons rfl <| Sub.nil _) rfl ⟨hM, by omega, hI.put hX hz _⟩ (by omega)
    ·
     refine C.exit <| X.exitT <| X.exitT <| X.outE <| X.next <| C.seq <| C.region <| ?_
     refine E.loadA (cs := [i64 n, i64 n, vo]) rfl Try.underlying37 rfl (by kernel_rfl) (hM.bat 4 rfl) rfl ?_
     refine E.storeAM 1 (cs := [i64 n, i64 n, vo]) hM rfl rfl rfl (by kernel_rfl) rfl (ones rfl <| ones rfl <| ones (by obtain ⟨a, c, rfl⟩ := Rd.shape (hM.sl 3 rfl); rfl) <| ones_nil) ?_
     intro w15 hM
     try dsimp only [Za, Zb, Zc, Zd, repl] at hM
     refine E.asg rfl rfl <| E.nil <| X.next <| C.ret <| retAT rfl rfl rfl Try.underlying37 rfl (by exact hM.blk 1 rfl) (by kernel_rfl) ?_
     exact ⟨n, n, 0, vo, l, rfl, fun _ => ⟨rfl, rfl, hI⟩, hM.pick [3] (by decide)⟩
end Go.Proofs.Ytbinlkobmlebpaa
