/- finder: FinderTriples. -/
import Derived.Test.YtbinlkobmlebpaaZ0
import Derived.Test.YtbinlkobmlebpaaZ17
import Derived.Test.YtbinlkobmlebpaaFd18Z
set_option linter.unusedSimpArgs false
set_option linter.unusedVariables false
namespace Go.Proofs.Ytbinlkobmlebpaa
open Go.RowKit Sym
open Fi
def tel (t : Nat × Nat × Nat) : List Int := [(t.1 : Nat), (t.2.1 : Nat), (t.2.2 : Nat)]
def tans (l : List Mk) : Int × List (Nat × Nat × Nat) := if 256 < l.length then (4, []) else if ∀ m ∈ l, mok m then (0, trs l) else (3, [])
theorem TrsV.ans {w w' : World} {v : Value} {l : List Mk} (h : TrsV w w' v l) : ∃ va : Value, v = .tuple #[va, i64 (tans l).1] ∧ M w Nn w' [Rg.slF tec 3 31 va (tans l).2] := by
 unfold tans
 rcases h with ⟨h1, rfl, h3⟩ | ⟨h1, h2, rfl, h3⟩ | ⟨h1, h2, vt, rfl, h3⟩
 · rw [if_pos h1]; exact ⟨nls, rfl, (M.ofExt h3).nilF tec 3 31⟩
 · rw [if_neg (by omega), if_neg h2]; exact ⟨nls, rfl, (M.ofExt h3).nilF tec 3 31⟩
 · rw [if_neg (by omega), if_pos h2]; exact ⟨vt, rfl, h3⟩
theorem dimV.shape {c r d : Mk} {v : Value} (h : dimV c r d v) : ∃ a b : Int, v = .tuple #[i64 a, i64 b] := by
 rcases h with ⟨_, rfl⟩ | ⟨_, _, _, _, _, rfl⟩ <;> exact ⟨_, _, rfl⟩
set_option maxHeartbeats 4000000 in
theorem FinderTriples_ret (p : Value) (l : List Mk) (x y z : Mk) (w : World) (hp : RdF mkc 4 w p l) :
  Ret Try.prog 3 #[p, .agg #[i64 x.x, i64 x.y, i64 x.s, i64 x.n, i64 y.x, i64 y.y, i64 y.s, i64 y.n, i64 z.x, i64 z.y, i64 z.s, i64 z.n]] w fun v w' => v = .bool true ∧ Ext w w' := by
 have hM := M.start w
 refine enter Try.func3 rfl (by kernel_rfl) Try.ntmps3 rfl ?_
 refine C.seq <| C.region <| ?_
 refine E.boxM hM rfl rfl rfl ?_
 intro b3 w0 hM
 try dsimp only [Za, Zb, Zc, Zd, repl] at hM
 refine E.asg rfl rfl <| E.nil <| X.next <| C.seq <| C.seq <| C.region <| E.mv rfl rfl <| ?_
 refine E.lenv rfl (RdF.shape (hM.argF0 hp)) Try.underlying22 rfl ?_
 refine E.bin rfl rfl rfl rfl <| E.nil <| X.next <| ?_
 refine C.cond' rfl (fun hC0 => ?_) (fun hC0 => ?_)
 ·
  refine C.seq <| C.region <| ?_
  refine E.call rfl rfl (alive_ret _) ?_
  rintro _ w1 ⟨rfl, x1⟩
  have hM := hM.ext x1
  try dsimp only [Za, Zb, Zc, Zd, repl] at hM
  refine E.asg rfl rfl <| E.nil <| X.next <| C.ret <| X.retT <| ret1 rfl rfl ?_
  exact ⟨rfl, hM.toExt⟩
 ·
  refine C.skip <| X.next <| C.seq <| C.region <| E.mv rfl rfl <| ?_
  refine E.call rfl rfl (Triples_ret p l _ (hM.argF0 hp)) ?_
  rintro v20 w2 h2
  obtain ⟨va, rfl, m2⟩ := h2.ans
  have hM := hM.call m2
  try dsimp only [Za, Zb, Zc, Zd, repl] at hM
  refine E.mv rfl rfl <| E.ext rfl rfl rfl <| E.ext rfl rfl rfl <| E.asg rfl rfl <| E.asg rfl rfl <| E.nil <| X.next <| C.seq <| C.region <| E.mv rfl rfl <| ?_
  refine E.call rfl rfl (rTriples_ret p l _ (hM.argF0 hp)) ?_
  rintro v25 w3 h3
  obtain ⟨vb, rfl, m3⟩ := h3.ans
  have hM := hM.call m3
  have hle := RdF.le (hM.slF 1 rfl)
  try dsimp only [Za, Zb, Zc, Zd, repl] at hM
  refine E.mv rfl rfl <| E.ext rfl rfl rfl <| E.ext rfl rfl rfl <| E.asg rfl rfl <| E.asg rfl rfl <| E.nil <| X.next <| C.seq <| ?_

  refine C.chainE [(3, _), (5, _), (7, _)] rfl [(37, .bool (decide False))] ?_ ?_
  ·
   refine C.region <| E.mv rfl rfl <| ?_
   refine E.lenv rfl (RdF.shape (hM.slF 1 rfl)) Try.underlying27 rfl ?_
   refine E.mv rfl rfl <| ?_
   refine E.lenv rfl (RdF.shape (hM.slF 2 rfl)) Try.underlying27 rfl ?_
   refine E.bin rfl rfl rfl rfl <| E.mv rfl rfl <| ?_
   refine E.split 33 rfl (fun g33 => ?_) (fun g33 => ?_)
   ·
    try simp only [Ya, Yb, Yc, Yd, Ye, Yf] at g33
    refine E.off rfl rfl rfl rfl <| E.off rfl rfl rfl rfl <| E.off rfl rfl rfl rfl <| E.pick rfl rfl rfl <| E.nil <| X.join0 (Sub.cons (by exact leaf_t (by ((try simp only [decide_eq_true_eq, decide_eq_false_iff_not, Bool.not_eq_true', Bool.not_eq_false'] at *); first | omega | (simp_all <;> fail) | (simp_all; omega)))) <| Sub.nil _) rfl rfl
   ·
    try simp only [Ya, Yb, Yc, Yd, Ye, Yf] at g33
    refine E.on rfl rfl (E.mv rfl rfl ?_)
    refine E.on rfl rfl (E.mv rfl rfl ?_)
    refine E.on rfl rfl (E.bin rfl rfl rfl rfl ?_)
    refine E.pick rfl rfl rfl <| E.nil <| X.join0 (Sub.cons (by exact leaf_d (by (simp [*] <;> fail))) <| Sub.nil _) rfl rfl
  refine C.cond' rfl (fun hC1 => ?_) (fun hC1 => ?_)
  ·
   refine C.seq <| C.region <| E.asg rfl rfl <| E.nil <| X.next <| C.ret <| X.retT <| ret1 rfl rfl ?_
   exact hC1.elim
  ·
   refine C.skip <| X.next <| C.seq <| C.seq <| C.region <| E.mv rfl rfl <| ?_
   refine E.lenv rfl (RdF.shape (hM.slF 1 rfl)) Try.underlying27 rfl ?_
   refine E.mv rfl rfl <| E.nil <| X.next <| C.block <| ?_

   refine C.loop1 [(3, _), (5, _), (7, _), (39, _)] rfl (fun (k : Nat) => [(40, i64 k)]) (fun (k : Nat) w' => M w (Nn) w' [Rg.blk b3 25 [i64 x.x, i64 x.y, i64 x.s, i64 x.n, i64 y.x, i64 y.y, i64 y.s, i64 y.n, i64 z.x, i64 z.y, i64 z.s, i64 z.n], Rg.slF tec 3 31 va (tans l).2, Rg.slF tec 3 31 vb (tans l).2] ∧ k ≤ (tans l).2.length) (fun (k : Nat) => (tans l).2.length - k) 0 ?_ ?_ ?_
   · exact Sub.cons rfl <| Sub.nil _
   · exact ⟨hM, Nat.zero_le _⟩
   rintro k w4 ⟨hM, hk⟩
   refine C.seq <| C.region <| E.bin rfl rfl rfl rfl <| E.nil <| X.next <| C.seq <| ?_
   refine C.cond' rfl (fun hC2 => ?_) (fun hC2 => ?_)
   ·
    have hk' : k < (tans l).2.length := by omega
    refine C.skip <| X.next <| C.seq <| C.block <| C.seq <| C.region <| E.mv rfl rfl <| E.asg rfl rfl <| E.nil <| X.next <| C.seq <| C.drawn (by kernel_rfl) (by kernel_rfl) <| Q.mv rfl rfl <| Q.mv rfl rfl <| ?_
    refine Q.idxF (k := k) rfl rfl (hM.slF 1 rfl) rfl hk' (by decide) Try.underlying27 (by kernel_rfl) rfl ?_
    refine Q.loadA (cs := tec (tans l).2[k]) rfl Try.underlying31 rfl (by kernel_rfl) ((hM.slF 1 rfl).all hk') rfl ?_
    refine Q.mv rfl rfl <| Q.mv rfl rfl <| ?_
    refine Q.idxF (k := k) rfl rfl (hM.slF 2 rfl) rfl hk' (by decide) Try.underlying27 (by kernel_rfl) rfl ?_
    refine Q.loadA (cs := tec (tans l).2[k]) rfl Try.underlying31 rfl (by kernel_rfl) ((hM.slF 2 rfl).all hk') rfl ?_
    refine Q.neA (tel (tans l).2[k]) (tel (tans l).2[k]) eqT_ar3 rfl rfl rfl rfl rfl ?_
    refine Q.nil <| fun w5 hx5 => ?_
    have hM := hM.ext hx5
    refine X.next <| ?_
    refine C.cond rfl (fun hC3 => ?_) (fun hC3 => ?_)
    ·
     simp at hC3
    ·
     refine C.skip <| X.outN <| X.next <| C.region <| ?_
     refine E.add rfl rfl (by omega) rfl ?_

     refine E.mv rfl rfl <| E.nil <| X.again1 (k + 1) (Sub.cons rfl <| Sub.nil _) rfl ⟨hM, by omega⟩ (by omega)
   ·
    refine C.exit <| X.exitT <| X.exitT <| X.outE <| X.next <| C.seq <| C.region <| ?_
    refine E.idxA (sz := 4) rfl rfl Try.underlying25 (by kernel_rfl) (by omega) (by omega) rfl ?_
    refine E.loadA (cs := mkc x) rfl Try.underlying24 rfl (by kernel_rfl) (hM.bsub (n := 4) 0 rfl) rfl ?_
    refine E.idxA (sz := 4) rfl rfl Try.underlying25 (by kernel_rfl) (by omega) (by omega) rfl ?_
    refine E.loadA (cs := mkc y) rfl Try.underlying24 rfl (by kernel_rfl) (hM.bsub (n := 4) 0 rfl) rfl ?_
    refine E.idxA (sz := 4) rfl rfl Try.underlying25 (by kernel_rfl) (by omega) (by omega) rfl ?_
    refine E.loadA (cs := mkc z) rfl Try.underlying24 rfl (by kernel_rfl) (hM.bsub (n := 4) 0 rfl) rfl ?_
    refine E.call rfl rfl (Dimension_ret x y z _) ?_
    rintro v60 w6 ⟨hd, x6⟩
    have hM := hM.ext x6
    obtain ⟨nn, gg, rfl⟩ := hd.shape
    try dsimp only [Za, Zb, Zc, Zd, repl] at hM
    refine E.mv rfl rfl <| E.ext rfl rfl rfl <| E.ext rfl rfl rfl <| E.asg rfl rfl <| E.asg rfl rfl <| E.nil <| X.next <| C.seq <| C.region <| ?_
    refine E.idxA (sz := 4) rfl rfl Try.underlying25 (by kernel_rfl) (by omega) (by omega) rfl ?_
    refine E.loadA (cs := mkc x) rfl Try.underlying24 rfl (by kernel_rfl) (hM.bsub (n := 4) 0 rfl) rfl ?_
    refine E.idxA (sz := 4) rfl rfl Try.underlying25 (by kernel_rfl) (by omega) (by omega) rfl ?_
    refine E.loadA (cs := mkc y) rfl Try.underlying24 rfl (by kernel_rfl) (hM.bsub (n := 4) 0 rfl) rfl ?_
    refine E.idxA (sz := 4) rfl rfl Try.underlying25 (by kernel_rfl) (by omega) (by omega) rfl ?_
    refine E.loadA (cs := mkc z) rfl Try.underlying24 rfl (by kernel_rfl) (hM.bsub (n := 4) 0 rfl) rfl ?_
    refine E.call rfl rfl (rDimension_ret x y z _) ?_
    rintro v70 w7 ⟨hd7, x7⟩
    have hM := hM.ext x7
    obtain rfl := dimV_one hd hd7
    try dsimp only [Za, Zb, Zc, Zd, repl] at hM
    refine E.mv rfl rfl <| E.ext rfl rfl rfl <| E.ext rfl rfl rfl <| E.asg rfl rfl <| E.asg rfl rfl <| E.nil <| X.next <| ?_

    refine C.cut0 [] rfl [(4, .bool true)] (fun w' => M w (Nn) w' []) ?_ ?_
    ·
     refine C.region <| E.mv rfl rfl <| E.mv rfl rfl <| E.bin rfl rfl rfl rfl <| E.mv rfl rfl <| ?_
     refine E.split 76 rfl (fun g76 => ?_) (fun g76 => ?_)
     ·
      try simp only [Ya, Yb, Yc, Yd, Ye, Yf] at g76
      refine E.on rfl rfl (E.mv rfl rfl ?_)
      refine E.on rfl rfl (E.mv rfl rfl ?_)
      refine E.on rfl rfl (E.bin rfl rfl rfl rfl ?_)
      refine E.pick rfl rfl rfl <| E.mv rfl rfl <| ?_
      refine E.split 81 rfl (fun g81 => ?_) (fun g81 => ?_)
      ·
       try simp only [Ya, Yb, Yc, Yd, Ye, Yf] at g81
       refine E.on rfl rfl (E.call rfl rfl (alive_ret _) ?_)
       rintro _ w8 ⟨rfl, x8⟩
       have hM := hM.ext x8
       try dsimp only [Za, Zb, Zc, Zd, repl] at hM

       refine E.pick rfl rfl rfl <| E.asg rfl rfl <| E.nil <| X.join0  (Sub.cons rfl <| Sub.nil _) rfl (hM.pick [] (by decide))
      ·
       try simp only [Ya, Yb, Yc, Yd, Ye, Yf] at g81
       exact (g81 trivial).elim
     ·
      try simp only [Ya, Yb, Yc, Yd, Ye, Yf] at g76
      exact (g76 trivial).elim
    rintro  w9 hM
    refine C.ret <| ret1 rfl rfl ?_
    exact ⟨rfl, hM.toExt⟩
end Go.Proofs.Ytbinlkobmlebpaa
