/- finder: sizes of codes, alignment patterns. -/
import Derived.Test.Ytbinlkobmlebpaax0
import Derived.Test.YtbinlkobmlebpaaFd30x
set_option linter.unusedSimpArgs false
set_option linter.unusedVariables false
namespace Go.Proofs.Ytbinlkobmlebpaa
open Go.RowKit Sym
open Fi
theorem vsize_ret (u : Nat) (w : World) (hu : 1 ≤ u ∧ u ≤ 6) :
  Ret Try.prog 49 #[i64 u] w fun v w' => v = .tuple #[i64 ((17 + 4 * u : Nat) : Int), i64 0] ∧ Ext w w' := by
 have hM := M.start w
 refine enter Try.func49 rfl (by kernel_rfl) Try.ntmps49 rfl ?_
 refine C.seq <| C.region <| E.asg rfl rfl <| E.asg rfl rfl <| E.nil <| X.next <| C.seq <| ?_

 refine C.chainE [(0, _)] rfl [(9, .bool (decide False))] ?_ ?_
 ·
  refine C.region <| E.mv rfl rfl <| E.bin rfl rfl rfl rfl <| E.mv rfl rfl <| ?_
  refine E.split 6 rfl (fun g6 => ?_) (fun g6 => ?_)
  ·
   try simp only [Ya, Yb, Yc, Yd, Ye, Yf] at g6
   refine E.off rfl rfl rfl rfl <| E.off rfl rfl rfl rfl <| E.pick rfl rfl rfl <| E.nil <| X.join0 (Sub.cons (look_eq rfl (congrArg Value.bool (by (exfalso; omega)))) <| Sub.nil _) rfl rfl
  ·
   try simp only [Ya, Yb, Yc, Yd, Ye, Yf] at g6
   refine E.on rfl rfl (E.mv rfl rfl ?_)
   refine E.on rfl rfl (E.bin rfl rfl rfl rfl ?_)
   refine E.pick rfl rfl rfl <| E.nil <| X.join0 (Sub.cons (look_eq rfl (congrArg Value.bool (by exact decide_eq_decide.2 ⟨fun h => by omega, fun h => by cases h⟩))) <| Sub.nil _) rfl rfl
 refine C.cond' rfl (fun hC0 => ?_) (fun hC0 => ?_)
 ·
  cases hC0
 ·
  refine C.skip <| X.next <| C.seq <| C.region <| E.mv rfl rfl <| ?_
  refine E.mulN (a := 4) (b := u) rfl rfl (by omega) rfl ?_
  refine E.addN (a := 17) (b := 4 * u) rfl rfl (by omega) rfl ?_
  refine E.asg rfl rfl <| E.asg rfl rfl <| E.nil <| X.next <| C.ret <| ret2 rfl rfl rfl ?_
  exact ⟨rfl, hM.toExt⟩
set_option maxHeartbeats 1000000 in
theorem aligns_ret (u : Nat) (w : World) (hu : 1 ≤ u ∧ u ≤ 6) :
  Ret Try.prog 50 #[i64 u] w fun v w' => ∃ (va : Value) (l : List Int), v = .tuple #[va, i64 0] ∧ (∀ z ∈ l, -1000 ≤ z ∧ z ≤ 1000) ∧ M w Nn w' [Rg.sl i64 3 va l] := by
 have hM := M.start w
 refine enter Try.func50 rfl (by kernel_rfl) Try.ntmps50 rfl ?_
 refine C.seq <| C.region <| E.asg rfl rfl <| E.asg rfl rfl <| E.nil <| X.next <| C.seq <| ?_

 refine C.chainE [(0, _)] rfl [(13, .bool (decide False))] ?_ ?_
 ·
  refine C.region <| E.mv rfl rfl <| E.bin rfl rfl rfl rfl <| E.mv rfl rfl <| ?_
  refine E.split 10 rfl (fun g10 => ?_) (fun g10 => ?_)
  ·
   try simp only [Ya, Yb, Yc, Yd, Ye, Yf] at g10
   refine E.off rfl rfl rfl rfl <| E.off rfl rfl rfl rfl <| E.pick rfl rfl rfl <| E.nil <| X.join0 (Sub.cons (look_eq rfl (congrArg Value.bool (by (exfalso; omega)))) <| Sub.nil _) rfl rfl
  ·
   try simp only [Ya, Yb, Yc, Yd, Ye, Yf] at g10
   refine E.on rfl rfl (E.mv rfl rfl ?_)
   refine E.on rfl rfl (E.bin rfl rfl rfl rfl ?_)
   refine E.pick rfl rfl rfl <| E.nil <| X.join0 (Sub.cons (look_eq rfl (congrArg Value.bool (by exact decide_eq_decide.2 ⟨fun h => by omega, fun h => by cases h⟩))) <| Sub.nil _) rfl rfl
 refine C.cond' rfl (fun hC0 => ?_) (fun hC0 => ?_)
 ·
  cases hC0
 ·
  refine C.skip <| X.next <| C.seq <| C.seq <| C.region <| E.mv rfl rfl <| E.bin rfl rfl rfl rfl <| E.nil <| X.next <| ?_
  refine C.cond' rfl (fun hC1 => ?_) (fun hC1 => ?_)
  ·
   refine C.seq <| C.region <| E.asg rfl rfl <| E.asg rfl rfl <| E.nil <| X.next <| C.ret <| X.retT <| ret2 rfl rfl rfl ?_
   exact ⟨_, [], rfl, fun z h => (by cases h), hM.nil i64 3⟩
  ·
   refine C.skip <| X.next <| C.seq <| C.region <| E.mv rfl rfl <| ?_
   refine E.quo rfl rfl (by omega) (quoN (a := u) (b := 7) (by omega) (by omega)) rfl ?_
   rw [show u / 7 = 0 by omega]
   refine E.addN (a := 0) (b := 2) rfl rfl (by omega) rfl ?_
   refine E.asg rfl rfl <| E.nil <| X.next <| C.seq <| C.region <| E.mv rfl rfl <| ?_
   refine E.mulN (a := 8) (b := u) rfl rfl (by omega) rfl ?_
   refine E.mv rfl rfl <| ?_
   refine E.mulN (a := 3) (b := 2) rfl rfl (by omega) rfl ?_
   refine E.addN (a := 8 * u) (b := 6) rfl rfl (by omega) rfl ?_
   refine E.addN (a := 8 * u + 6) (b := 5) rfl rfl (by omega) rfl ?_
   refine E.mv rfl rfl <| ?_
   refine E.mulN (a := 4) (b := 2) rfl rfl (by omega) rfl ?_
   refine E.subN (a := 8) (b := 4) rfl rfl (by omega) rfl ?_
   refine E.quo rfl rfl (by omega) (quoN (a := 8 * u + 6 + 5) (b := 4) (by omega) (by omega)) rfl ?_
   refine E.mulN (a := (8 * u + 6 + 5) / 4) (b := 2) rfl rfl (by omega) rfl ?_
   refine E.asg rfl rfl <| E.nil <| X.next <| C.seq <| C.region <| ?_
   refine E.mk1M (enc := i64) (6 : Int) hM rfl Try.underlying45 elem_Tint rfl rfl ?_
   intro v30 w0 hM
   try dsimp only [Za, Zb, Zc, Zd, repl] at hM
   refine E.asg rfl rfl <| E.nil <| X.next <| C.seq <| C.seq <| C.region <| E.asg rfl rfl <| E.nil <| X.next <| C.block <| ?_

   refine C.loop3 [(0, _), (4, _), (5, _)] rfl (fun (i : Nat) (vl : Value) (l : (List Int)) => [(6, vl), (7, i64 i)]) (fun (i : Nat) (vl : Value) (l : (List Int)) w' => M w (Nn) w' [Rg.sl i64 3 vl l] ∧ 1 ≤ i ∧ i ≤ 2 ∧ l.length ≤ i ∧ ∀ z ∈ l, -1000 ≤ z ∧ z ≤ 1000) (fun (i : Nat) (vl : Value) (l : (List Int)) => 2 - i) 1 v30 [6] ?_ ?_ ?_
   · exact Sub.cons rfl <| Sub.cons rfl <| Sub.nil _
   · exact ⟨hM, Nat.le_refl _, by omega, Nat.le_refl _, fun z h => by rw [List.mem_singleton] at h; omega⟩
   rintro i vl l w1 ⟨hM, hi1, hi2, hl, hz⟩
   refine C.seq <| C.seq <| C.region <| E.mv rfl rfl <| E.mv rfl rfl <| E.bin rfl rfl rfl rfl <| E.nil <| X.next <| ?_
   refine C.cond' rfl (fun hC2 => ?_) (fun hC2 => ?_)
   ·
    obtain rfl : i = 1 := by omega
    refine C.skip <| X.next <| C.seq <| C.block <| C.region <| E.mv rfl rfl <| E.mv rfl rfl <| ?_
    refine E.mulN (a := 4) (b := u) rfl rfl (by omega) rfl ?_
    refine E.addN (a := 4 * u) (b := 10) rfl rfl (by omega) rfl ?_
    refine E.mv rfl rfl <| E.mv rfl rfl <| ?_
    refine E.subN (a := 2) (b := 1) rfl rfl (by omega) rfl ?_
    refine E.mv rfl rfl <| ?_
    refine E.subN (a := 1) (b := 1) rfl rfl (by omega) rfl ?_
    refine E.mulN (a := (8 * u + 6 + 5) / 4 * 2) (b := 0) rfl rfl (by omega) rfl ?_
    refine E.subN (a := 4 * u + 10) (b := (8 * u + 6 + 5) / 4 * 2 * 0) rfl rfl (by omega) rfl ?_
    refine E.pushM 0 ((4 * u + 10 - (8 * u + 6 + 5) / 4 * 2 * 0 : Nat) : Int) hM rfl rfl rfl Try.underlying45 elem_Tint rfl (by omega) (by omega) (by simp) rfl rfl ?_
    intro v48 u48 w2 hM
    try dsimp only [Za, Zb, Zc, Zd, repl] at hM
    refine E.asg rfl rfl <| E.nil <| X.outN <| X.next <| C.region <| E.mv rfl rfl <| ?_
    refine E.add rfl rfl (by omega) rfl ?_

    refine E.asg rfl rfl <| E.nil <| X.again3 2 _ _ (Sub.cons rfl <| Sub.cons rfl <| Sub.nil _) rfl ⟨hM, by omega, by omega, by rw [List.length_append, List.length_singleton]; omega, fun z h => (List.mem_append.1 h).elim (hz z) (fun h => by rw [List.mem_singleton] at h; omega)⟩ (by omega)
   ·
    refine C.exit <| X.exitT <| X.exitT <| X.outE <| X.next <| C.seq <| C.region <| E.mv rfl rfl <| E.asg rfl rfl <| E.asg rfl rfl <| E.nil <| X.next <| C.ret <| ret2 rfl rfl rfl ?_
    exact ⟨_, l, rfl, hz, hM⟩
end Go.Proofs.Ytbinlkobmlebpaa
