/- finder: words as bits. -/
import Derived.Test.Ytbinlkobmlebpaax0
import Derived.Test.YtbinlkobmlebpaaFd33x
set_option linter.unusedSimpArgs false
set_option linter.unusedVariables false
namespace Go.Proofs.Ytbinlkobmlebpaa
open Go.RowKit Sym
open Fi
set_option maxHeartbeats 1000000 in
theorem fromWords_ret (p : Value) (l : List Int) (w : World) (hp : RdL i64 w p l) (hl : l.length ≤ 10000) :
  Ret Try.prog 54 #[p, i64 8] w fun v w' => ∃ (vo : Value) (bits : List Bool) (e : Int), v = .tuple #[vo, i64 e] ∧ bits.length ≤ 80000 ∧ M w Nn w' [Rg.sl Value.bool 4 vo bits] := by
 have hM := M.start w
 refine enter Try.func54 rfl (by kernel_rfl) Try.ntmps54 rfl ?_
 refine C.seq <| C.region <| E.asg rfl rfl <| E.asg rfl rfl <| E.nil <| X.next <| C.seq <| ?_

 refine C.chainE [(0, _), (1, _)] rfl [(14, .bool (decide False))] ?_ ?_
 ·
  refine C.region <| E.mv rfl rfl <| E.bin rfl rfl rfl rfl <| E.mv rfl rfl <| ?_
  refine E.split 11 rfl (fun g11 => ?_) (fun g11 => ?_)
  ·
   try simp only [Ya, Yb, Yc, Yd, Ye, Yf] at g11
   refine E.off rfl rfl rfl rfl <| E.off rfl rfl rfl rfl <| E.pick rfl rfl rfl <| E.nil <| X.join0 (Sub.cons (look_eq rfl (congrArg Value.bool (by (exfalso; omega)))) <| Sub.nil _) rfl rfl
  ·
   try simp only [Ya, Yb, Yc, Yd, Ye, Yf] at g11
   refine E.on rfl rfl (E.mv rfl rfl ?_)
   refine E.on rfl rfl (E.bin rfl rfl rfl rfl ?_)
   refine E.pick rfl rfl rfl <| E.nil <| X.join0 (Sub.cons (look_eq rfl (congrArg Value.bool (by rfl))) <| Sub.nil _) rfl rfl
 refine C.cond' rfl (fun hC0 => ?_) (fun hC0 => ?_)
 ·
  cases hC0
 ·
  refine C.skip <| X.next <| C.seq <| C.seq <| C.region <| E.mv rfl rfl <| ?_
  refine E.lenv rfl (Rd.shape (hM.arg0 hp)) Try.underlying45 rfl ?_
  refine E.mv rfl rfl <| ?_
  refine E.quo rfl rfl (by omega) (IntWalk.i64_quo _ _ (by omega)) rfl ?_
  refine E.bin rfl rfl rfl rfl <| E.nil <| X.next <| ?_
  refine C.cond' rfl (fun hC1 => ?_) (fun hC1 => ?_)
  ·
   refine C.seq <| C.region <| E.asg rfl rfl <| E.asg rfl rfl <| E.nil <| X.next <| C.ret <| X.retT <| ret2 rfl rfl rfl ?_
   exact ⟨_, [], _, rfl, by simp, hM.nil Value.bool 4⟩
  ·
   refine C.skip <| X.next <| C.seq <| C.region <| E.asg rfl rfl <| E.nil <| X.next <| C.seq <| C.seq <| C.region <| E.asg rfl rfl <| E.nil <| X.next <| C.block <| ?_
   have hM := hM.nil Value.bool 4
   try dsimp only [Za, Zb, Zc, Zd, repl] at hM

   refine C.loop3 [(0, _), (1, _)] rfl (fun (i : Nat) (vl : Value) (b : (List Bool)) => [(6, vl), (7, i64 i)]) (fun (i : Nat) (vl : Value) (b : (List Bool)) w' => M w (Nn) w' [Rg.sl Value.bool 4 vl b] ∧ i ≤ l.length ∧ b.length ≤ 8 * i) (fun (i : Nat) (vl : Value) (b : (List Bool)) => l.length - i) 0 nls [] ?_ ?_ ?_
   · exact Sub.cons rfl <| Sub.cons rfl <| Sub.nil _
   · exact ⟨hM, Nat.zero_le _, Nat.zero_le _⟩
   rintro i vl b w0 ⟨hM, hi, hbl⟩
   refine C.seq <| C.seq <| C.region <| E.mv rfl rfl <| E.mv rfl rfl <| ?_
   refine E.lenv rfl (Rd.shape (hM.arg0 hp)) Try.underlying45 rfl ?_
   refine E.bin rfl rfl rfl rfl <| E.nil <| X.next <| ?_
   refine C.cond' rfl (fun hC2 => ?_) (fun hC2 => ?_)
   ·
    have hi' : i < l.length := by omega
    refine C.skip <| X.next <| C.seq <| C.block <| C.seq <| ?_

    refine C.chainE [(0, _), (1, _), (6, _), (7, _)] rfl [(41, .bool (decide (l[i] < 0 ∨ 255 < l[i])))] ?_ ?_
    ·
     refine C.region <| E.mv rfl rfl <| E.mv rfl rfl <| ?_
     refine E.get (k := i) rfl rfl (hM.arg0 hp) rfl hi' Try.underlying45 (by kernel_rfl) Try.underlying3 rfl rfl rfl ?_
     refine E.bin rfl rfl rfl rfl <| E.mv rfl rfl <| ?_
     refine E.split 31 rfl (fun g31 => ?_) (fun g31 => ?_)
     ·
      try simp only [Ya, Yb, Yc, Yd, Ye, Yf] at g31
      refine E.off rfl rfl rfl rfl <| E.off rfl rfl rfl rfl <| E.off rfl rfl rfl rfl <| E.off rfl rfl rfl rfl <| E.off rfl rfl rfl rfl <| E.off rfl rfl rfl rfl <| E.off rfl rfl rfl rfl <| E.off rfl rfl rfl rfl <| E.off rfl rfl rfl rfl <| E.pick rfl rfl rfl <| E.nil <| X.join0 (Sub.cons (look_eq rfl (congrArg Value.bool (by exact (decide_eq_true (by omega)).symm))) <| Sub.nil _) rfl rfl
     ·
      try simp only [Ya, Yb, Yc, Yd, Ye, Yf] at g31
      refine E.on rfl rfl (E.mv rfl rfl ?_)
      refine E.on rfl rfl (E.mv rfl rfl ?_)
      refine E.on rfl rfl (E.idx1 (k := i) rfl rfl (hM.arg0 hp) rfl hi' Try.underlying45 (by kernel_rfl) rfl ?_)
      refine E.on rfl rfl (E.load rfl Try.underlying3 rfl ((hM.arg0 hp).cellA rfl hi') rfl ?_)
      refine E.on rfl rfl (E.mv rfl rfl ?_)
      refine E.on rfl rfl (E.conv rfl Try.underlying3 Try.underlying100 (IntWalk.u64_in _ (by omega)) rfl ?_)
      refine E.on rfl rfl (E.shl (c := 256) rfl rfl (by omega) (by decide) rfl ?_)
      refine E.on rfl rfl (E.sub' rfl rfl (by omega) rfl ?_)
      refine E.on rfl rfl (E.bin rfl rfl rfl rfl ?_)
      refine E.pick rfl rfl rfl <| E.nil <| X.join0 (Sub.cons (look_eq rfl (congrArg Value.bool (by exact decide_eq_decide.2 ⟨fun h => by omega, fun h => by omega⟩))) <| Sub.nil _) rfl rfl
    refine C.cond' rfl (fun hC3 => ?_) (fun hC3 => ?_)
    ·
     refine C.seq <| C.region <| E.asg rfl rfl <| E.asg rfl rfl <| E.nil <| X.next <| C.ret <| X.retT <| X.retB <| X.retT <| X.retT <| X.retB <| X.retT <| ret2 rfl rfl rfl ?_
     exact ⟨_, [], _, rfl, by simp, (hM.pick [] (by decide)).nil Value.bool 4⟩
    ·
     refine C.skip <| X.next <| C.seq <| C.region <| E.mv rfl rfl <| ?_
     refine E.sub' rfl rfl (by omega) rfl ?_
     refine E.asg rfl rfl <| E.nil <| X.next <| C.block <| ?_

     refine C.loop3 [(0, _), (1, _), (7, _)] rfl (fun (k : Nat) (vl : Value) (b : (List Bool)) => [(6, vl), (8, i64 ((k : Int) - 1))]) (fun (k : Nat) (vl : Value) (b : (List Bool)) w' => M w (Nn) w' [Rg.sl Value.bool 4 vl b] ∧ k ≤ 8 ∧ b.length + k ≤ 8 * i + 8) (fun (k : Nat) (vl : Value) (b : (List Bool)) => k) 8 vl b ?_ ?_ ?_
     · exact Sub.cons rfl <| Sub.cons rfl <| Sub.nil _
     · exact ⟨hM, Nat.le_refl _, by omega⟩
     rintro k vl b w1 ⟨hM, hk, hbk⟩
     refine C.seq <| C.seq <| C.region <| E.mv rfl rfl <| E.bin rfl rfl rfl rfl <| E.nil <| X.next <| ?_
     refine C.cond' rfl (fun hC4 => ?_) (fun hC4 => ?_)
     ·
      obtain ⟨j, rfl⟩ : ∃ j, k = j + 1 := ⟨k - 1, by omega⟩
      refine C.skip <| X.next <| C.seq <| C.block <| C.region <| E.mv rfl rfl <| E.mv rfl rfl <| E.mv rfl rfl <| ?_
      refine E.get (k := i) rfl rfl (hM.arg0 hp) rfl hi' Try.underlying45 (by kernel_rfl) Try.underlying3 rfl rfl rfl ?_
      refine E.mv rfl rfl <| ?_
      refine E.conv rfl Try.underlying3 Try.underlying100 (IntWalk.u64_in _ (by omega)) rfl ?_
      refine E.shr rfl rfl (by omega) rfl rfl ?_
      refine E.bin rfl rfl rfl rfl <| E.bin rfl rfl rfl rfl <| ?_
      refine E.pushM 0 _ hM rfl rfl rfl Try.underlying35 elem_Tbool rfl (by omega) (by omega) (by simp) rfl rfl ?_
      intro v59 u59 w2 hM
      try dsimp only [Za, Zb, Zc, Zd, repl] at hM
      refine E.asg rfl rfl <| E.nil <| X.outN <| X.next <| C.region <| E.mv rfl rfl <| ?_
      refine E.sub' rfl rfl (by omega) rfl ?_

      refine E.asg rfl rfl <| E.nil <| X.again3 j _ _ (Sub.cons rfl <| Sub.cons (look_eq rfl (congrArg i64 (by omega))) <| Sub.nil _) rfl ⟨hM, by omega, by rw [List.length_append, List.length_singleton]; omega⟩ (by omega)
     ·
      obtain rfl : k = 0 := by omega
      refine C.exit <| X.exitT <| X.exitT <| X.outE <| X.outN <| X.next <| C.region <| E.mv rfl rfl <| ?_
      refine E.addN (a := i) (b := 1) rfl rfl (by omega) rfl ?_

      refine E.asg rfl rfl <| E.nil <| X.again3 (i + 1) _ _ (Sub.cons rfl <| Sub.cons rfl <| Sub.nil _) rfl ⟨hM, by omega, by omega⟩ (by omega)
   ·
    obtain rfl : i = l.length := by omega
    refine C.exit <| X.exitT <| X.exitT <| X.outE <| X.next <| C.seq <| C.region <| E.mv rfl rfl <| E.asg rfl rfl <| E.asg rfl rfl <| E.nil <| X.next <| C.ret <| ret2 rfl rfl rfl ?_
    exact ⟨_, b, _, rfl, by omega, hM⟩
end Go.Proofs.Ytbinlkobmlebpaa
