/- finder: blank codes. -/
import Derived.Test.Ytbinlkobmlebpaax0
import Derived.Test.YtbinlkobmlebpaaFd39x
set_option linter.unusedSimpArgs false
set_option linter.unusedVariables false
namespace Go.Proofs.Ytbinlkobmlebpaa
open Go.RowKit Sym
open Fi
abbrev LBn := List Bool
def MI (n i : Nat) (l : List Bool) : Prop := l.length = n * n ∧ ∀ k, k < i → k < n * n → zn (n : Int) ((k % n : Nat) : Int) ((k / n : Nat) : Int) → l.getD k false = fz (n : Int) ((k % n : Nat) : Int) ((k / n : Nat) : Int)
theorem MI.set {n i : Nat} {l : List Bool} {o : Bool} (h : MI n i l) (hi : i < n * n) (ho : zn (n : Int) ((i % n : Nat) : Int) ((i / n : Nat) : Int) → o = fz (n : Int) ((i % n : Nat) : Int) ((i / n : Nat) : Int)) : MI n (i + 1) (l.set i o) := by
  refine ⟨by rw [List.length_set]; exact h.1, fun k hk hkn hz => ?_⟩
  by_cases e : i = k
  · subst e
    rw [List.getD_eq_getElem?_getD, List.getElem?_set_self (by rw [h.1]; exact hi)]; exact ho hz
  · rw [List.getD_eq_getElem?_getD, List.getElem?_set_ne e, ← List.getD_eq_getElem?_getD]; exact h.2 k (by omega) hkn hz
set_option maxHeartbeats 2000000 in
theorem blank_ret (u n : Nat) (w : World) (hu : 1 ≤ u ∧ u ≤ 6) (hn : n = 17 + 4 * u) :
  Ret Try.prog 19 #[i64 u] w fun v w' => ∃ (vo : Value) (l : List Bool), v = .tuple #[mat n n vo, i64 0] ∧ MI n (n * n) l ∧ M w Nn w' [Rg.sl Value.bool 4 vo l] := by
 have hM := M.start w
 refine enter Try.func19 rfl (by kernel_rfl) Try.ntmps19 rfl ?_
 refine C.seq <| C.region <| ?_
 refine E.allocM (z := .agg #[.int .i64 0, .int .i64 0, .slice none 0 0]) (cs := [.int .i64 0, .int .i64 0, .slice none 0 0]) hM (by kernel_rfl) rfl rfl ?_
 intro b2 w0 hM
 try dsimp only [Za, Zb, Zc, Zd, repl] at hM
 refine E.asg rfl rfl <| E.nil <| X.next <| C.seq <| C.region <| E.mv rfl rfl <| ?_
 refine E.call rfl rfl (vsize_ret u _ hu) ?_
 rintro _ w0 ⟨rfl, x0⟩
 have hM := hM.ext x0
 rw [← hn]
 have hnn : n * n ≤ 41 * 41 := Nat.mul_le_mul (by omega) (by omega)
 have hn1 : 1 ≤ n := by omega
 try dsimp only [Za, Zb, Zc, Zd, repl] at hM
 refine E.mv rfl rfl <| E.ext rfl rfl rfl <| E.ext rfl rfl rfl <| E.asg rfl rfl <| E.asg rfl rfl <| E.nil <| X.next <| C.seq <| C.seq <| C.region <| E.mv rfl rfl <| E.bin rfl rfl rfl rfl <| E.nil <| X.next <| ?_
 refine C.cond' rfl (fun hC0 => ?_) (fun hC0 => ?_)
 ·
  exact (hC0 rfl).elim
 ·
  refine C.skip <| X.next <| C.seq <| C.region <| E.mv rfl rfl <| ?_
  refine E.call rfl rfl (aligns_ret u _ hu) ?_
  rintro _ w1 ⟨va, al, rfl, hab, m1⟩
  have hM := hM.call m1
  try dsimp only [Za, Zb, Zc, Zd, repl] at hM
  refine E.mv rfl rfl <| E.ext rfl rfl rfl <| E.ext rfl rfl rfl <| E.asg rfl rfl <| E.asg rfl rfl <| E.nil <| X.next <| C.seq <| C.region <| E.mv rfl rfl <| E.mv rfl rfl <| E.mv rfl rfl <| E.mv rfl rfl <| ?_
  refine E.mulN (a := n) (b := n) rfl rfl (by omega) rfl ?_
  refine E.makeM (by_ := 1) (enc := Value.bool) (n := n * n) false hM rfl Try.underlying35 (by kernel_rfl) rfl (by omega) (by omega) rfl ?_
  intro v29 w3 hM
  try dsimp only [Za, Zb, Zc, Zd, repl] at hM
  refine E.buildC (cs := [i64 n, i64 n, v29]) [.int .i64 0, .int .i64 0, .slice none 0 0] [0, 1, 2] rfl (by obtain ⟨a, c, rfl⟩ := Rd.shape (hM.sl 2 rfl); rfl) (by obtain ⟨a, c, rfl⟩ := Rd.shape (hM.sl 2 rfl); kernel_rfl) rfl ?_
  refine E.allocM (z := .agg #[.int .i64 0, .int .i64 0, .slice none 0 0]) (cs := [.int .i64 0, .int .i64 0, .slice none 0 0]) hM (by kernel_rfl) rfl rfl ?_
  intro b8 w4 hM
  try dsimp only [Za, Zb, Zc, Zd, repl] at hM
  refine E.storeAM 3 (cs := [i64 n, i64 n, v29]) hM rfl rfl rfl (by kernel_rfl) rfl (ones rfl <| ones rfl <| ones (by obtain ⟨a, c, rfl⟩ := Rd.shape (hM.sl 2 rfl); rfl) <| ones_nil) ?_
  intro w5 hM
  try dsimp only [Za, Zb, Zc, Zd, repl] at hM
  refine E.nil <| X.next <| C.seq <| C.seq <| C.region <| E.asg rfl rfl <| E.nil <| X.next <| C.block <| ?_

  refine C.loop2 [(2, _), (4, _), (6, _), (8, _)] rfl (fun (i : Nat) (l : LBn) => [(9, i64 i)]) (fun (i : Nat) (l : LBn) w' => M w (Nn) w' [Rg.blk b2 37 [i64 0, i64 0, .slice none 0 0], Rg.sl i64 3 va al, Rg.sl Value.bool 4 v29 l, Rg.blk b8 37 [i64 n, i64 n, v29]] ∧ i ≤ n * n ∧ MI n i l) (fun (i : Nat) (l : LBn) => n * n - i) 0 (List.replicate (n * n) false) ?_ ?_ ?_
  · exact Sub.cons rfl <| Sub.nil _
  · exact ⟨hM, Nat.zero_le _, by simp, fun k h => absurd h (Nat.not_lt_zero _)⟩
  rintro i l w6 ⟨hM, hi, hI⟩
  refine C.seq <| C.seq <| C.region <| E.mv rfl rfl <| E.mv rfl rfl <| E.mv rfl rfl <| ?_
  refine E.mulN (a := n) (b := n) rfl rfl (by omega) rfl ?_
  refine E.bin rfl rfl rfl rfl <| E.nil <| X.next <| ?_
  refine C.cond' rfl (fun hC1 => ?_) (fun hC1 => ?_)
  ·
   have hi' : i < n * n := by omega
   have hmo : i % n < n := Nat.mod_lt _ hn1
   have hdi : i / n < n := Nat.div_lt_of_lt_mul hi'
   have hll := hI.1
   have hz1 := Int.natCast_nonneg (i / n)
   have hz2 := Int.natCast_nonneg (i % n)
   refine C.skip <| X.next <| C.seq <| C.block <| C.heldX (Sh := fun w' => ∃ (ls : LBn), M w (Nn) w' [Rg.blk b8 37 [i64 n, i64 n, v29], Rg.sl Value.bool 4 v29 ls] ∧ ls.length = n * n) hM (by kernel_rfl) fun wh7 hM => ?_
   have hS : ∃ (ls : LBn), M w (Nn) wh7 [Rg.blk b8 37 [i64 n, i64 n, v29], Rg.sl Value.bool 4 v29 ls] ∧ ls.length = n * n := ⟨_, hM.pick [3, 2] (by decide), by simp [hI.1]⟩
   refine H.takeV 0 rfl rfl (by kernel_rfl) (by kernel_rfl) (by kernel_rfl) hS (Y.fld (o := 2) (sz := 0) rfl Try.underlying37 rfl rfl (by kernel_rfl)) (fun w' ⟨ls, hM, hX⟩ => Y.fld (o := 2) (sz := 0) rfl Try.underlying37 rfl rfl (by kernel_rfl)) rfl ?_
   refine H.take 2 rfl rfl (by kernel_rfl) (by kernel_rfl) (by kernel_rfl) hS (fun w' ⟨ls, hM, hX⟩ => Y.mv rfl) rfl ?_
   refine H.take 3 rfl rfl (by kernel_rfl) (by kernel_rfl) (by kernel_rfl) hS (fun w' ⟨ls, hM, hX⟩ => Y.mv rfl) rfl ?_
   refine H.take 4 rfl rfl (by kernel_rfl) (by kernel_rfl) (by kernel_rfl) hS (fun w' ⟨ls, hM, hX⟩ => Y.mv rfl) rfl ?_
   refine H.take 5 rfl rfl (by kernel_rfl) (by kernel_rfl) (by kernel_rfl) hS (fun w' ⟨ls, hM, hX⟩ => Y.mv rfl) rfl ?_
   refine H.take 6 rfl rfl (by kernel_rfl) (by kernel_rfl) (by kernel_rfl) hS (fun w' ⟨ls, hM, hX⟩ => Y.mv rfl) rfl ?_
   refine H.take 7 rfl rfl (by kernel_rfl) (by kernel_rfl) (by kernel_rfl) hS (fun w' ⟨ls, hM, hX⟩ => Y.rem rfl rfl (by omega) (remN (a := i) (b := n))) rfl ?_
   refine H.take 8 rfl rfl (by kernel_rfl) (by kernel_rfl) (by kernel_rfl) hS (fun w' ⟨ls, hM, hX⟩ => Y.mv rfl) rfl ?_
   refine H.take 9 rfl rfl (by kernel_rfl) (by kernel_rfl) (by kernel_rfl) hS (fun w' ⟨ls, hM, hX⟩ => Y.mv rfl) rfl ?_
   refine H.take 10 rfl rfl (by kernel_rfl) (by kernel_rfl) (by kernel_rfl) hS (fun w' ⟨ls, hM, hX⟩ => Y.quo rfl rfl (by omega) (quoN (a := i) (b := n) (by omega) (by omega))) rfl ?_
   refine H.takeV 1 rfl rfl (by kernel_rfl) (by kernel_rfl) (by kernel_rfl) hS (Y.load rfl Try.underlying35 rfl (by exact hM.bcell 3 rfl rfl)) (fun w' ⟨ls, hM, hX⟩ => Y.load rfl Try.underlying35 rfl (by exact hM.bcell 0 rfl rfl)) rfl ?_
   refine H.only 11 rfl (by kernel_rfl) ?_
   refine E.call rfl rfl (mdark_ret va al n ((i % n : Nat) : Int) ((i / n : Nat) : Int) _ (hM.sl 1 rfl) hab (by omega)) ?_
   rintro _ w9 ⟨o, rfl, ho, x9⟩
   have hM := hM.ext x9
   try dsimp only [Za, Zb, Zc, Zd, repl] at hM
   have hS : ∃ (ls : LBn), M w (Nn) _ [Rg.blk b8 37 [i64 n, i64 n, v29], Rg.sl Value.bool 4 v29 ls] ∧ ls.length = n * n := ⟨_, hM.pick [3, 2] (by decide), by simp [hI.1]⟩
   refine H.back hS ?_
   refine H.takeV 12 rfl rfl (by kernel_rfl) (by kernel_rfl) (by kernel_rfl) hS (Y.idx1 (k := i) rfl rfl (by exact hM.sl 2 rfl) rfl (by omega) Try.underlying35 (by kernel_rfl)) (fun w' ⟨ls, hM, hX⟩ => Y.idx1 (k := i) rfl rfl (by exact hM.sl 1 rfl) rfl (by omega) Try.underlying35 (by kernel_rfl)) rfl ?_
   refine H.only 13 rfl (by kernel_rfl) ?_
   refine E.storeL 2 o hM rfl rfl rfl (by kernel_rfl) rfl rfl (by omega) ?_
   intro w9 hM
   try dsimp only [Za, Zb, Zc, Zd, repl] at hM
   have hS : ∃ (ls : LBn), M w (Nn) _ [Rg.blk b8 37 [i64 n, i64 n, v29], Rg.sl Value.bool 4 v29 ls] ∧ ls.length = n * n := ⟨_, hM.pick [3, 2] (by decide), by simp [hI.1]⟩
   refine H.back hS ?_
   refine H.done (by kernel_rfl) ?_
   refine X.outN <| X.next <| C.region <| E.mv rfl rfl <| ?_
   refine E.addN (a := i) (b := 1) rfl rfl (by omega) rfl ?_

   refine E.asg rfl rfl <| E.nil <| X.again2 (i + 1) _ (Sub.cons rfl <| Sub.nil _) rfl ⟨hM, by omega, hI.set hi' ho⟩ (by omega)
  ·
   obtain rfl : i = n * n := by omega
   refine C.exit <| X.exitT <| X.exitT <| X.outE <| X.next <| C.seq <| C.region <| ?_
   refine E.loadA (cs := [i64 n, i64 n, v29]) rfl Try.underlying37 rfl (by kernel_rfl) (hM.bat 3 rfl) rfl ?_
   refine E.storeAM 0 (cs := [i64 n, i64 n, v29]) hM rfl rfl rfl (by kernel_rfl) rfl (ones rfl <| ones rfl <| ones (by obtain ⟨a, c, rfl⟩ := Rd.shape (hM.sl 2 rfl); rfl) <| ones_nil) ?_
   intro w10 hM
   try dsimp only [Za, Zb, Zc, Zd, repl] at hM
   refine E.asg rfl rfl <| E.nil <| X.next <| C.ret <| retAT rfl rfl rfl Try.underlying37 rfl (by exact hM.blk 0 rfl) (by kernel_rfl) ?_
   exact ⟨v29, l, rfl, hI, hM.pick [2] (by decide)⟩
end Go.Proofs.Ytbinlkobmlebpaa
