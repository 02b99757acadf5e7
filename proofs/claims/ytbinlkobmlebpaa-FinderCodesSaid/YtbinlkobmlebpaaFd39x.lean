/- finder: what the modules of a code are for. -/
import Derived.Test.Ytbinlkobmlebpaax0
import Derived.Test.YtbinlkobmlebpaaFd38x
set_option linter.unusedSimpArgs false
set_option linter.unusedVariables false
namespace Go.Proofs.Ytbinlkobmlebpaa
open Go.RowKit Sym
open Fi
abbrev LIn := List Int
theorem Sym.C.heldX {P : Program} {Q : Exit → Act → World → Prop} {s : St} {env : Env} {w0 w : World} {S : Nat → Prop} {rs : List Rg} {id : Nat} {l : List Oper} {Sh : World → Prop} (hM : M w0 S w rs) (hm : P.follows .mixedOrders = true) (h : ∀ w', M w0 S w' rs → wpH P l.toArray Q Sh s l.length (Array.replicate l.length false) env w') : wpC P (.region id l.toArray true) Q s env w :=
 C.held _ hm fun w' hx _ => h w' (hM.ext hx)
def CI (n i : Nat) (l : List Int) : Prop := l.length = n * n ∧ ∀ k, k < i → k < n * n → (l.getD k 0 = 2 ↔ zn (n : Int) ((k % n : Nat) : Int) ((k / n : Nat) : Int))
theorem CI.set {n i : Nat} {l : List Int} {o : Int} (h : CI n i l) (hi : i < n * n) (ho : o = 2 ↔ zn (n : Int) ((i % n : Nat) : Int) ((i / n : Nat) : Int)) : CI n (i + 1) (l.set i o) := by
  refine ⟨by rw [List.length_set]; exact h.1, fun k hk hkn => ?_⟩
  by_cases e : i = k
  · subst e
    rw [List.getD_eq_getElem?_getD, List.getElem?_set_self (by rw [h.1]; exact hi)]; exact ho
  · rw [List.getD_eq_getElem?_getD, List.getElem?_set_ne e, ← List.getD_eq_getElem?_getD]; exact h.2 k (by omega) hkn
set_option maxHeartbeats 2000000 in
theorem cells_ret (u n : Nat) (w : World) (hu : 1 ≤ u ∧ u ≤ 6) (hn : n = 17 + 4 * u) :
  Ret Try.prog 75 #[i64 u] w fun v w' => ∃ (vo : Value) (l : List Int), v = .tuple #[vo, i64 0] ∧ CI n (n * n) l ∧ M w Nn w' [Rg.sl i64 118 vo l] := by
 have hM := M.start w
 refine enter Try.func75 rfl (by kernel_rfl) Try.ntmps75 rfl ?_
 refine C.seq <| C.region <| E.asg rfl rfl <| E.asg rfl rfl <| E.nil <| X.next <| C.seq <| C.region <| E.mv rfl rfl <| ?_
 refine E.call rfl rfl (vsize_ret u _ hu) ?_
 rintro _ w0 ⟨rfl, x0⟩
 have hM := hM.ext x0
 rw [← hn]
 have hnn : n * n ≤ 41 * 41 := Nat.mul_le_mul (by omega) (by omega)
 have hn1 : 1 ≤ n := by omega
 try dsimp only [Za, Zb, Zc, Zd, repl] at hM
 refine E.mv rfl rfl <| E.ext rfl rfl rfl <| E.ext rfl rfl rfl <| E.asg rfl rfl <| E.asg rfl rfl <| E.nil <| X.next <| C.seq <| C.seq <| C.region <| E.mv rfl rfl <| E.bin rfl rfl rfl rfl <| E.nil <| X.next <| ?_
 refine C.cond' rfl (fun hC0 => ?_) (fun hC0 => ?_)
 ·
  exact (hC0 rfl).elim
 ·
  refine C.skip <| X.next <| C.seq <| C.region <| E.mv rfl rfl <| ?_
  refine E.call rfl rfl (aligns_ret u _ hu) ?_
  rintro _ w1 ⟨va, al, rfl, hab, m1⟩
  have hM := hM.call m1
  try dsimp only [Za, Zb, Zc, Zd, repl] at hM
  refine E.mv rfl rfl <| E.ext rfl rfl rfl <| E.ext rfl rfl rfl <| E.asg rfl rfl <| E.asg rfl rfl <| E.nil <| X.next <| C.seq <| C.region <| E.mv rfl rfl <| E.mv rfl rfl <| ?_
  refine E.mulN (a := n) (b := n) rfl rfl (by omega) rfl ?_
  refine E.makeM (by_ := 8) (enc := i64) (n := n * n) (0 : Int) hM rfl Try.underlying124 (by kernel_rfl) rfl (by omega) (by omega) rfl ?_
  intro v26 w2 hM
  try dsimp only [Za, Zb, Zc, Zd, repl] at hM
  refine E.asg rfl rfl <| E.nil <| X.next <| C.seq <| C.seq <| C.region <| E.asg rfl rfl <| E.nil <| X.next <| C.block <| ?_

  refine C.loop2 [(4, _), (6, _), (8, _)] rfl (fun (i : Nat) (l : (List Int)) => [(9, i64 i)]) (fun (i : Nat) (l : (List Int)) w' => M w (Nn) w' [Rg.sl i64 3 va al, Rg.sl i64 118 v26 l] ∧ i ≤ n * n ∧ CI n i l) (fun (i : Nat) (l : (List Int)) => n * n - i) 0 (List.replicate (n * n) 0) ?_ ?_ ?_
  · exact Sub.cons rfl <| Sub.nil _
  · exact ⟨hM, Nat.zero_le _, by simp, fun k h => absurd h (Nat.not_lt_zero _)⟩
  rintro i l w3 ⟨hM, hi, hI⟩
  refine C.seq <| C.seq <| C.region <| E.mv rfl rfl <| E.mv rfl rfl <| E.mv rfl rfl <| ?_
  refine E.mulN (a := n) (b := n) rfl rfl (by omega) rfl ?_
  refine E.bin rfl rfl rfl rfl <| E.nil <| X.next <| ?_
  refine C.cond' rfl (fun hC1 => ?_) (fun hC1 => ?_)
  ·
   have hi' : i < n * n := by omega
   have hmo : i % n < n := Nat.mod_lt _ hn1
   have hdi : i / n < n := Nat.div_lt_of_lt_mul hi'
   have hll := hI.1
   have hz1 := Int.natCast_nonneg (i / n)
   have hz2 := Int.natCast_nonneg (i % n)
   refine C.skip <| X.next <| C.seq <| C.block <| C.heldX (Sh := fun w' => ∃ (ls : LIn), M w (Nn) w' [Rg.sl i64 118 v26 ls] ∧ ls.length = n * n) hM (by kernel_rfl) fun wh4 hM => ?_
   have hS : ∃ (ls : LIn), M w (Nn) wh4 [Rg.sl i64 118 v26 ls] ∧ ls.length = n * n := ⟨_, hM.pick [1] (by decide), by simp [hI.1]⟩
   refine H.take 0 rfl rfl (by kernel_rfl) (by kernel_rfl) (by kernel_rfl) hS (fun w' ⟨ls, hM, hX⟩ => Y.mv rfl) rfl ?_
   refine H.take 1 rfl rfl (by kernel_rfl) (by kernel_rfl) (by kernel_rfl) hS (fun w' ⟨ls, hM, hX⟩ => Y.mv rfl) rfl ?_
   refine H.take 2 rfl rfl (by kernel_rfl) (by kernel_rfl) (by kernel_rfl) hS (fun w' ⟨ls, hM, hX⟩ => Y.mv rfl) rfl ?_
   refine H.take 3 rfl rfl (by kernel_rfl) (by kernel_rfl) (by kernel_rfl) hS (fun w' ⟨ls, hM, hX⟩ => Y.mv rfl) rfl ?_
   refine H.take 4 rfl rfl (by kernel_rfl) (by kernel_rfl) (by kernel_rfl) hS (fun w' ⟨ls, hM, hX⟩ => Y.mv rfl) rfl ?_
   refine H.take 5 rfl rfl (by kernel_rfl) (by kernel_rfl) (by kernel_rfl) hS (fun w' ⟨ls, hM, hX⟩ => Y.mv rfl) rfl ?_
   refine H.take 6 rfl rfl (by kernel_rfl) (by kernel_rfl) (by kernel_rfl) hS (fun w' ⟨ls, hM, hX⟩ => Y.rem rfl rfl (by omega) (remN (a := i) (b := n))) rfl ?_
   refine H.take 7 rfl rfl (by kernel_rfl) (by kernel_rfl) (by kernel_rfl) hS (fun w' ⟨ls, hM, hX⟩ => Y.mv rfl) rfl ?_
   refine H.take 8 rfl rfl (by kernel_rfl) (by kernel_rfl) (by kernel_rfl) hS (fun w' ⟨ls, hM, hX⟩ => Y.mv rfl) rfl ?_
   refine H.take 9 rfl rfl (by kernel_rfl) (by kernel_rfl) (by kernel_rfl) hS (fun w' ⟨ls, hM, hX⟩ => Y.quo rfl rfl (by omega) (quoN (a := i) (b := n) (by omega) (by omega))) rfl ?_
   refine H.only 10 rfl (by kernel_rfl) ?_
   refine E.call rfl rfl (purpose_ret va al n ((i % n : Nat) : Int) ((i / n : Nat) : Int) _ (hM.sl 0 rfl) hab (by omega)) ?_
   rintro _ w5 ⟨o, rfl, ho, x5⟩
   have hM := hM.ext x5
   try dsimp only [Za, Zb, Zc, Zd, repl] at hM
   have hS : ∃ (ls : LIn), M w (Nn) _ [Rg.sl i64 118 v26 ls] ∧ ls.length = n * n := ⟨_, hM.pick [1] (by decide), by simp [hI.1]⟩
   refine H.back hS ?_
   refine H.takeV 11 rfl rfl (by kernel_rfl) (by kernel_rfl) (by kernel_rfl) hS (Y.idx1 (k := i) rfl rfl (by exact hM.sl 1 rfl) rfl (by omega) Try.underlying124 (by kernel_rfl)) (fun w' ⟨ls, hM, hX⟩ => Y.idx1 (k := i) rfl rfl (by exact hM.sl 0 rfl) rfl (by omega) Try.underlying124 (by kernel_rfl)) rfl ?_
   refine H.only 12 rfl (by kernel_rfl) ?_
   refine E.storeL 1 o hM rfl rfl rfl (by kernel_rfl) rfl rfl (by omega) ?_
   intro w6 hM
   try dsimp only [Za, Zb, Zc, Zd, repl] at hM
   have hS : ∃ (ls : LIn), M w (Nn) _ [Rg.sl i64 118 v26 ls] ∧ ls.length = n * n := ⟨_, hM.pick [1] (by decide), by simp [hI.1]⟩
   refine H.back hS ?_
   refine H.done (by kernel_rfl) ?_
   refine X.outN <| X.next <| C.region <| E.mv rfl rfl <| ?_
   refine E.addN (a := i) (b := 1) rfl rfl (by omega) rfl ?_

   refine E.asg rfl rfl <| E.nil <| X.again2 (i + 1) _ (Sub.cons rfl <| Sub.nil _) rfl ⟨hM, by omega, hI.set hi' ho⟩ (by omega)
  ·
   obtain rfl : i = n * n := by omega
   refine C.exit <| X.exitT <| X.exitT <| X.outE <| X.next <| C.seq <| C.region <| E.mv rfl rfl <| E.asg rfl rfl <| E.asg rfl rfl <| E.nil <| X.next <| C.ret <| ret2 rfl rfl rfl ?_
   exact ⟨v26, l, rfl, hI, hM.pick [1] (by decide)⟩
end Go.Proofs.Ytbinlkobmlebpaa
