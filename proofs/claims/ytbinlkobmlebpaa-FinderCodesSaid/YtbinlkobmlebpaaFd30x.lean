/- finder: the modules of a blank code. -/
import Derived.Test.Ytbinlkobmlebpaax0
import Derived.Test.YtbinlkobmlebpaaFd29x
set_option linter.unusedSimpArgs false
set_option linter.unusedVariables false
namespace Go.Proofs.Ytbinlkobmlebpaa
open Go.RowKit Sym
open Fi
def fzA (s x : Int) : Int := if s - 8 ≤ x then s - 4 else 3
def fzD (s x y : Int) : Int := max (max (x - fzA s x) (fzA s x - x)) (max (y - fzA s y) (fzA s y - y))
def fz (s x y : Int) : Bool := decide (fzD s x y ≠ 2 ∧ fzD s x y ≠ 4)
theorem fzA_b {s x : Int} (h : 0 ≤ s ∧ s ≤ 1000) : -1000 ≤ fzA s x ∧ fzA s x ≤ 1000 := by unfold fzA; split <;> omega
set_option maxHeartbeats 2000000 in
theorem mdark_ret (p : Value) (l : List Int) (s x y : Int) (w : World) (hp : RdL i64 w p l) (hb : ∀ z ∈ l, -1000 ≤ z ∧ z ≤ 1000) (hs : 0 ≤ s ∧ s ≤ 1000 ∧ 0 ≤ x ∧ x ≤ 1000 ∧ 0 ≤ y ∧ y ≤ 1000) :
  Ret Try.prog 51 #[p, i64 s, i64 x, i64 y] w fun v w' => ∃ b : Bool, v = .bool b ∧ (zn s x y → b = fz s x y) ∧ Ext w w' := by
 have hM := M.start w
 refine enter Try.func51 rfl (by kernel_rfl) Try.ntmps51 rfl ?_
 refine C.seq <| C.region <| E.asg rfl rfl <| E.nil <| X.next <| C.seq <| C.seq <| C.region <| E.mv rfl rfl <| E.mv rfl rfl <| E.mv rfl rfl <| E.mv rfl rfl <| ?_
 refine E.call rfl rfl (purpose_ret p l s x y _ (hM.arg0 hp) hb hs) ?_
 rintro _ w0 ⟨o, rfl, ho, x0⟩
 have hM := hM.ext x0
 have hax := fzA_b (s := s) (x := x) ⟨hs.1, hs.2.1⟩
 have hay := fzA_b (s := s) (x := y) ⟨hs.1, hs.2.1⟩
 try dsimp only [Za, Zb, Zc, Zd, repl] at hM
 refine E.nil <| X.next <| C.block <| C.seq <| C.region <| E.bin rfl rfl rfl rfl <| E.asg rfl rfl <| E.nil <| X.next <| ?_
 refine C.cond' rfl (fun hC0 => ?_) (fun hC0 => ?_)
 ·
  refine C.seq <| C.region <| E.asg rfl rfl <| E.asg rfl rfl <| E.nil <| X.next <| ?_

  refine C.cut0 [(1, _), (2, _), (3, _), (10, _)] rfl [(9, i64 (fzA s x))] (fun w' => M w (Nn) w' []) ?_ ?_
  ·
   refine C.seq <| C.region <| E.mv rfl rfl <| E.mv rfl rfl <| ?_
   refine E.sub' rfl rfl (by omega) rfl ?_
   refine E.bin rfl rfl rfl rfl <| E.nil <| X.next <| ?_
   refine C.cond' rfl (fun hC1 => ?_) (fun hC1 => ?_)
   ·
    refine C.region <| E.mv rfl rfl <| ?_
    refine E.sub' rfl rfl (by omega) rfl ?_

    refine E.asg rfl rfl <| E.nil <| X.join0  (Sub.cons (look_eq rfl (congrArg i64 (by unfold fzA; rw [if_pos (by omega)]))) <| Sub.nil _) rfl hM
   ·

    refine C.skip <| X.join0  (Sub.cons (look_eq rfl (congrArg i64 (by unfold fzA; rw [if_neg (by omega)]))) <| Sub.nil _) rfl hM
  rintro  w1 hM

  refine C.cut0 [(2, _), (3, _), (9, _)] rfl [(10, i64 (fzA s y))] (fun w' => M w (Nn) w' []) ?_ ?_
  ·
   refine C.seq <| C.region <| E.mv rfl rfl <| E.mv rfl rfl <| ?_
   refine E.sub' rfl rfl (by omega) rfl ?_
   refine E.bin rfl rfl rfl rfl <| E.nil <| X.next <| ?_
   refine C.cond' rfl (fun hC2 => ?_) (fun hC2 => ?_)
   ·
    refine C.region <| E.mv rfl rfl <| ?_
    refine E.sub' rfl rfl (by omega) rfl ?_

    refine E.asg rfl rfl <| E.nil <| X.join0  (Sub.cons (look_eq rfl (congrArg i64 (by unfold fzA; rw [if_pos (by omega)]))) <| Sub.nil _) rfl hM
   ·

    refine C.skip <| X.join0  (Sub.cons (look_eq rfl (congrArg i64 (by unfold fzA; rw [if_neg (by omega)]))) <| Sub.nil _) rfl hM
  rintro  w2 hM
  refine C.seq <| C.region <| E.mv rfl rfl <| E.mv rfl rfl <| E.mv rfl rfl <| E.mv rfl rfl <| ?_
  refine E.call rfl rfl (far_ret x y (fzA s x) (fzA s y) _ (by omega)) ?_
  rintro _ w3 ⟨rfl, x3⟩
  have hM := hM.ext x3
  rw [show max (max (x - fzA s x) (fzA s x - x)) (max (y - fzA s y) (fzA s y - y)) = fzD s x y from rfl]
  try dsimp only [Za, Zb, Zc, Zd, repl] at hM
  refine E.asg rfl rfl <| E.nil <| X.next <| ?_

  refine C.chainE [] rfl [(8, .bool (fz s x y))] ?_ ?_
  ·
   refine C.region <| E.mv rfl rfl <| E.bin rfl rfl rfl rfl <| E.mv rfl rfl <| ?_
   refine E.split 41 rfl (fun g41 => ?_) (fun g41 => ?_)
   ·
    try simp only [Ya, Yb, Yc, Yd, Ye, Yf] at g41
    refine E.on rfl rfl (E.mv rfl rfl ?_)
    refine E.on rfl rfl (E.bin rfl rfl rfl rfl ?_)
    refine E.pick rfl rfl rfl <| E.asg rfl rfl <| E.nil <| X.join0 (Sub.cons (look_eq rfl (congrArg Value.bool (by unfold fz; first | exact (decide_eq_false (by omega)).symm | exact decide_eq_decide.2 ⟨fun h => by omega, fun h => by omega⟩))) <| Sub.nil _) rfl rfl
   ·
    try simp only [Ya, Yb, Yc, Yd, Ye, Yf] at g41
    refine E.off rfl rfl rfl rfl <| E.off rfl rfl rfl rfl <| E.pick rfl rfl rfl <| E.asg rfl rfl <| E.nil <| X.join0 (Sub.cons (look_eq rfl (congrArg Value.bool (by unfold fz; first | exact (decide_eq_false (by omega)).symm | exact decide_eq_decide.2 ⟨fun h => by omega, fun h => by omega⟩))) <| Sub.nil _) rfl rfl
  refine C.ret <| X.retB <| X.retT <| ret1 rfl rfl ?_
  exact ⟨_, rfl, fun _ => rfl, hM.toExt⟩
 ·
  refine C.seq <| C.region <| E.bin rfl rfl rfl rfl <| E.asg rfl rfl <| E.nil <| X.next <| ?_
  refine C.cond' rfl (fun hC3 => ?_) (fun hC3 => ?_)
  ·
   refine C.seq <| C.region <| E.mv rfl rfl <| E.mv rfl rfl <| E.mv rfl rfl <| E.mv rfl rfl <| ?_
   refine E.call rfl rfl (aligned_ret p l s x y _ (hM.arg0 hp) hb hs) ?_
   rintro _ w4 ⟨a, b, c, rfl, hab, x4⟩
   have hM := hM.ext x4
   try dsimp only [Za, Zb, Zc, Zd, repl] at hM
   refine E.mv rfl rfl <| E.ext rfl rfl rfl <| E.ext rfl rfl rfl <| E.ext rfl rfl rfl <| E.asg rfl rfl <| E.asg rfl rfl <| E.asg rfl rfl <| E.nil <| X.next <| C.seq <| C.region <| E.mv rfl rfl <| E.mv rfl rfl <| E.mv rfl rfl <| E.mv rfl rfl <| ?_
   refine E.call rfl rfl (far_ret x y a b _ (by omega)) ?_
   rintro _ w5 ⟨rfl, x5⟩
   have hM := hM.ext x5
   try dsimp only [Za, Zb, Zc, Zd, repl] at hM
   refine E.bin rfl rfl rfl rfl <| E.asg rfl rfl <| E.nil <| X.next <| C.ret <| X.retB <| X.retT <| ret1 rfl rfl ?_
   exact ⟨_, rfl, fun h => (hC0 (ho.2 h)).elim, hM.toExt⟩
  ·
   refine C.seq <| C.region <| E.bin rfl rfl rfl rfl <| E.asg rfl rfl <| E.nil <| X.next <| ?_
   refine C.cond' rfl (fun hC4 => ?_) (fun hC4 => ?_)
   ·
    refine C.seq <| C.region <| E.mv rfl rfl <| E.mv rfl rfl <| ?_
    refine E.add rfl rfl (by omega) rfl ?_
    refine E.rem rfl rfl (by omega) (IntWalk.rem_in _ _ (by omega)) rfl ?_
    refine E.bin rfl rfl rfl rfl <| E.asg rfl rfl <| E.nil <| X.next <| C.ret <| X.retB <| X.retT <| ret1 rfl rfl ?_
    exact ⟨_, rfl, fun h => (hC0 (ho.2 h)).elim, hM.toExt⟩
   ·
    refine C.seq <| C.region <| E.bin rfl rfl rfl rfl <| E.asg rfl rfl <| E.nil <| X.next <| ?_
    refine C.cond' rfl (fun hC5 => ?_) (fun hC5 => ?_)
    ·
     refine C.seq <| C.region <| E.asg rfl rfl <| E.nil <| X.next <| C.ret <| X.retB <| X.retT <| ret1 rfl rfl ?_
     exact ⟨_, rfl, fun h => (hC0 (ho.2 h)).elim, hM.toExt⟩
    ·
     refine C.skip <| X.outN <| X.next <| C.seq <| C.region <| E.asg rfl rfl <| E.nil <| X.next <| C.ret <| ret1 rfl rfl ?_
     exact ⟨_, rfl, fun h => (hC0 (ho.2 h)).elim, hM.toExt⟩
end Go.Proofs.Ytbinlkobmlebpaa
