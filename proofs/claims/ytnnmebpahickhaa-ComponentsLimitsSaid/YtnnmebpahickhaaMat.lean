/- Bitmaps: their sizes, and what is checked of them. -/
import Derived.Test.YtnnmebpahickhaaProg
import Derived.Test.YtnnmebpahickhaaSym7
namespace Go.Proofs.Ytnnmebpahickhaa
set_option linter.unusedSimpArgs false
set_option linter.unusedVariables false
open Go.RowKit Sym

def okSize (W Ht : Int) : Prop := 1 ≤ W ∧ W ≤ 4096 ∧ 1 ≤ Ht ∧ Ht ≤ 4096 ∧ W * Ht ≤ 4194304
instance (W Ht : Int) : Decidable (okSize W Ht) := by unfold okSize; exact inferInstance
def okMat (W Ht : Int) (n : Nat) : Prop := okSize W Ht ∧ (n : Int) = W * Ht
instance (W Ht : Int) (n : Nat) : Decidable (okMat W Ht n) := by unfold okMat; exact inferInstance
theorem mul_small {a b : Int} (h1 : 1 ≤ a) (h2 : a ≤ 4096) (h3 : 1 ≤ b) (h4 : b ≤ 4096) : 0 ≤ a * b ∧ a * b ≤ 16777216 :=
  ⟨Int.mul_nonneg (by omega) (by omega), by have := Int.mul_le_mul h2 h4 (by omega) (by omega); omega⟩
/-- a bitmap as a value -/
abbrev mat (W Ht : Int) (vd : Value) : Value := .agg #[i64 W, i64 Ht, vd]

theorem possible_ret (W Ht : Int) (w : World) :
    Ret Try.prog 45 #[i64 W, i64 Ht] w fun v w' => v = .bool (decide (okSize W Ht)) ∧ w = w' := by
  refine enter Try.func45 rfl (by kernel_rfl) Try.ntmps45 rfl ?_
  refine C.seq <| C.region <| E.asg rfl rfl <| E.nil <| X.next <| C.seq <| C.region <| E.mv rfl rfl <| E.bin rfl rfl rfl rfl <| E.mv rfl rfl <| ?_
  refine E.split 7 rfl (fun g7 => ?_) (fun g7 => ?_)
  case' refine_2 =>
    refine E.off rfl rfl rfl rfl <| E.off rfl rfl rfl rfl <| E.pick rfl rfl rfl <| E.mv rfl rfl <| E.off rfl rfl rfl rfl <| E.off rfl rfl rfl rfl <| E.pick rfl rfl rfl <| E.mv rfl rfl <| E.off rfl rfl rfl rfl <| E.off rfl rfl rfl rfl <| E.pick rfl rfl rfl <| E.mv rfl rfl <| E.off rfl rfl rfl rfl <| E.off rfl rfl rfl rfl <| E.off rfl rfl rfl rfl <| E.off rfl rfl rfl rfl <| E.pick rfl rfl rfl <| E.asg rfl rfl <| E.nil <| X.next <| C.ret <| ret1 rfl rfl ?_
    have := of_decide_eq_false g7
    exact ⟨by rw [decide_eq_false]; unfold okSize; omega, rfl⟩
  have h7 := of_decide_eq_true g7
  refine E.on rfl rfl (E.mv rfl rfl ?_)
  refine E.on rfl rfl (E.bin rfl rfl rfl rfl ?_)
  refine E.pick rfl rfl rfl <| E.mv rfl rfl <| ?_
  refine E.split 11 rfl (fun g11 => ?_) (fun g11 => ?_)
  case' refine_2 =>
    refine E.off rfl rfl rfl rfl <| E.off rfl rfl rfl rfl <| E.pick rfl rfl rfl <| E.mv rfl rfl <| E.off rfl rfl rfl rfl <| E.off rfl rfl rfl rfl <| E.pick rfl rfl rfl <| E.mv rfl rfl <| E.off rfl rfl rfl rfl <| E.off rfl rfl rfl rfl <| E.off rfl rfl rfl rfl <| E.off rfl rfl rfl rfl <| E.pick rfl rfl rfl <| E.asg rfl rfl <| E.nil <| X.next <| C.ret <| ret1 rfl rfl ?_
    have := of_decide_eq_false g11
    exact ⟨by rw [decide_eq_false]; unfold okSize; omega, rfl⟩
  have h11 := of_decide_eq_true g11
  refine E.on rfl rfl (E.mv rfl rfl ?_)
  refine E.on rfl rfl (E.bin rfl rfl rfl rfl ?_)
  refine E.pick rfl rfl rfl <| E.mv rfl rfl <| ?_
  refine E.split 15 rfl (fun g15 => ?_) (fun g15 => ?_)
  case' refine_2 =>
    refine E.off rfl rfl rfl rfl <| E.off rfl rfl rfl rfl <| E.pick rfl rfl rfl <| E.mv rfl rfl <| E.off rfl rfl rfl rfl <| E.off rfl rfl rfl rfl <| E.off rfl rfl rfl rfl <| E.off rfl rfl rfl rfl <| E.pick rfl rfl rfl <| E.asg rfl rfl <| E.nil <| X.next <| C.ret <| ret1 rfl rfl ?_
    have := of_decide_eq_false g15
    exact ⟨by rw [decide_eq_false]; unfold okSize; omega, rfl⟩
  have h15 := of_decide_eq_true g15
  refine E.on rfl rfl (E.mv rfl rfl ?_)
  refine E.on rfl rfl (E.bin rfl rfl rfl rfl ?_)
  refine E.pick rfl rfl rfl <| E.mv rfl rfl <| ?_
  refine E.split 19 rfl (fun g19 => ?_) (fun g19 => ?_)
  case' refine_2 =>
    refine E.off rfl rfl rfl rfl <| E.off rfl rfl rfl rfl <| E.off rfl rfl rfl rfl <| E.off rfl rfl rfl rfl <| E.pick rfl rfl rfl <| E.asg rfl rfl <| E.nil <| X.next <| C.ret <| ret1 rfl rfl ?_
    have := of_decide_eq_false g19
    exact ⟨by rw [decide_eq_false]; unfold okSize; omega, rfl⟩
  have h19 := of_decide_eq_true g19
  have hm := mul_small (a := W) (b := Ht) (by omega) (by omega) (by omega) (by omega)
  refine E.on rfl rfl (E.mv rfl rfl ?_)
  refine E.on rfl rfl (E.mv rfl rfl ?_)
  refine E.on rfl rfl (E.mul rfl rfl (by omega) rfl ?_)
  refine E.on rfl rfl (E.bin rfl rfl rfl rfl ?_)
  refine E.pick rfl rfl rfl <| E.asg rfl rfl <| E.nil <| X.next <| C.ret <| ret1 rfl rfl ?_
  exact ⟨congrArg Value.bool (decide_eq_decide.2 (by unfold okSize; omega)), rfl⟩
theorem fits_ret (W Ht : Int) (w : World) :
    Ret Try.prog 44 #[i64 W, i64 Ht] w fun v w' => v = .bool (decide (okSize W Ht)) ∧ w = w' := by
  refine enter Try.func44 rfl (by kernel_rfl) Try.ntmps44 rfl ?_
  refine C.seq <| C.region <| E.asg rfl rfl <| E.nil <| X.next <| C.seq <| C.region <| E.mv rfl rfl <| E.bin rfl rfl rfl rfl <| E.mv rfl rfl <| ?_
  refine E.split 7 rfl (fun g7 => ?_) (fun g7 => ?_)
  case' refine_2 =>
    refine E.off rfl rfl rfl rfl <| E.off rfl rfl rfl rfl <| E.pick rfl rfl rfl <| E.mv rfl rfl <| E.off rfl rfl rfl rfl <| E.off rfl rfl rfl rfl <| E.pick rfl rfl rfl <| E.mv rfl rfl <| E.off rfl rfl rfl rfl <| E.off rfl rfl rfl rfl <| E.pick rfl rfl rfl <| E.mv rfl rfl <| E.off rfl rfl rfl rfl <| E.off rfl rfl rfl rfl <| E.off rfl rfl rfl rfl <| E.off rfl rfl rfl rfl <| E.pick rfl rfl rfl <| E.asg rfl rfl <| E.nil <| X.next <| C.ret <| ret1 rfl rfl ?_
    have := of_decide_eq_false g7
    exact ⟨by rw [decide_eq_false]; unfold okSize; omega, rfl⟩
  have h7 := of_decide_eq_true g7
  refine E.on rfl rfl (E.mv rfl rfl ?_)
  refine E.on rfl rfl (E.bin rfl rfl rfl rfl ?_)
  refine E.pick rfl rfl rfl <| E.mv rfl rfl <| ?_
  refine E.split 11 rfl (fun g11 => ?_) (fun g11 => ?_)
  case' refine_2 =>
    refine E.off rfl rfl rfl rfl <| E.off rfl rfl rfl rfl <| E.pick rfl rfl rfl <| E.mv rfl rfl <| E.off rfl rfl rfl rfl <| E.off rfl rfl rfl rfl <| E.pick rfl rfl rfl <| E.mv rfl rfl <| E.off rfl rfl rfl rfl <| E.off rfl rfl rfl rfl <| E.off rfl rfl rfl rfl <| E.off rfl rfl rfl rfl <| E.pick rfl rfl rfl <| E.asg rfl rfl <| E.nil <| X.next <| C.ret <| ret1 rfl rfl ?_
    have := of_decide_eq_false g11
    exact ⟨by rw [decide_eq_false]; unfold okSize; omega, rfl⟩
  have h11 := of_decide_eq_true g11
  refine E.on rfl rfl (E.mv rfl rfl ?_)
  refine E.on rfl rfl (E.bin rfl rfl rfl rfl ?_)
  refine E.pick rfl rfl rfl <| E.mv rfl rfl <| ?_
  refine E.split 15 rfl (fun g15 => ?_) (fun g15 => ?_)
  case' refine_2 =>
    refine E.off rfl rfl rfl rfl <| E.off rfl rfl rfl rfl <| E.pick rfl rfl rfl <| E.mv rfl rfl <| E.off rfl rfl rfl rfl <| E.off rfl rfl rfl rfl <| E.off rfl rfl rfl rfl <| E.off rfl rfl rfl rfl <| E.pick rfl rfl rfl <| E.asg rfl rfl <| E.nil <| X.next <| C.ret <| ret1 rfl rfl ?_
    have := of_decide_eq_false g15
    exact ⟨by rw [decide_eq_false]; unfold okSize; omega, rfl⟩
  have h15 := of_decide_eq_true g15
  refine E.on rfl rfl (E.mv rfl rfl ?_)
  refine E.on rfl rfl (E.bin rfl rfl rfl rfl ?_)
  refine E.pick rfl rfl rfl <| E.mv rfl rfl <| ?_
  refine E.split 19 rfl (fun g19 => ?_) (fun g19 => ?_)
  case' refine_2 =>
    refine E.off rfl rfl rfl rfl <| E.off rfl rfl rfl rfl <| E.off rfl rfl rfl rfl <| E.off rfl rfl rfl rfl <| E.pick rfl rfl rfl <| E.asg rfl rfl <| E.nil <| X.next <| C.ret <| ret1 rfl rfl ?_
    have := of_decide_eq_false g19
    exact ⟨by rw [decide_eq_false]; unfold okSize; omega, rfl⟩
  have h19 := of_decide_eq_true g19
  have hm := mul_small (a := W) (b := Ht) (by omega) (by omega) (by omega) (by omega)
  refine E.on rfl rfl (E.mv rfl rfl ?_)
  refine E.on rfl rfl (E.mv rfl rfl ?_)
  refine E.on rfl rfl (E.mul rfl rfl (by omega) rfl ?_)
  refine E.on rfl rfl (E.bin rfl rfl rfl rfl ?_)
  refine E.pick rfl rfl rfl <| E.asg rfl rfl <| E.nil <| X.next <| C.ret <| ret1 rfl rfl ?_
  exact ⟨congrArg Value.bool (decide_eq_decide.2 (by unfold okSize; omega)), rfl⟩
theorem Check_ret (W Ht : Int) (vd : Value) (n : Nat) (w : World) (hv : ∃ a cap, vd = .slice a n cap) :
    Ret Try.prog 35 #[mat W Ht vd] w fun v w' => v = i64 (if okMat W Ht n then 0 else 1) ∧ Ext w w' := by
  refine enter Try.func35 rfl (by kernel_rfl) Try.ntmps35 rfl ?_
  refine C.seq <| C.region <| ?_
  refine E.boxB (cs := [i64 W, i64 Ht, vd]) rfl rfl rfl ?_
  intro w1 b1 x1 _
  refine E.asg rfl rfl <| E.nil <| X.next <| C.seq <| C.seq <| C.region <| ?_
  refine E.fld (o := 0) (sz := 0) rfl Try.underlying24 rfl rfl (by kernel_rfl) rfl ?_
  refine E.load rfl Try.underlying3 rfl (b1.cell 0) rfl ?_
  refine E.fld (o := 1) (sz := 0) rfl Try.underlying24 rfl rfl (by kernel_rfl) rfl ?_
  refine E.load rfl Try.underlying3 rfl (b1.cell 1) rfl ?_
  refine E.call rfl rfl (possible_ret W Ht _) ?_
  rintro _ _ ⟨rfl, rfl⟩
  refine E.not rfl rfl <| E.mv rfl rfl <| ?_
  refine E.split 9 rfl (fun g9 => ?_) (fun g9 => ?_)
  · refine E.off rfl rfl rfl rfl <| E.off rfl rfl rfl rfl <| E.off rfl rfl rfl rfl <| E.off rfl rfl rfl rfl <| E.off rfl rfl rfl rfl <| E.off rfl rfl rfl rfl <| E.off rfl rfl rfl rfl <| E.off rfl rfl rfl rfl <| E.off rfl rfl rfl rfl <| E.pick rfl rfl rfl <| E.nil <| X.next <| C.condT rfl <| C.seq <| C.region <| E.asg rfl rfl <| E.nil <| X.next <| C.ret <| X.retT <| ret1 rfl rfl ?_
    have hno : ¬ okSize W Ht := by simpa using g9
    exact ⟨by rw [if_neg (fun h => hno h.1)], x1⟩
  have hok : okSize W Ht := by simpa using g9
  have hm := mul_small hok.1 hok.2.1 hok.2.2.1 hok.2.2.2.1
  refine E.on rfl rfl (E.fld (o := 2) (sz := 0) rfl Try.underlying24 rfl rfl (by kernel_rfl) rfl ?_)
  refine E.on rfl rfl (E.load rfl Try.underlying22 rfl (b1.cell 2) rfl ?_)
  refine E.on rfl rfl (E.lenv rfl hv Try.underlying22 rfl ?_)
  refine E.on rfl rfl (E.fld (o := 0) (sz := 0) rfl Try.underlying24 rfl rfl (by kernel_rfl) rfl ?_)
  refine E.on rfl rfl (E.load rfl Try.underlying3 rfl (b1.cell 0) rfl ?_)
  refine E.on rfl rfl (E.fld (o := 1) (sz := 0) rfl Try.underlying24 rfl rfl (by kernel_rfl) rfl ?_)
  refine E.on rfl rfl (E.load rfl Try.underlying3 rfl (b1.cell 1) rfl ?_)
  refine E.on rfl rfl (E.mul rfl rfl (by omega) rfl ?_)
  refine E.on rfl rfl (E.bin rfl rfl rfl rfl ?_)
  refine E.pick rfl rfl rfl <| E.nil <| X.next <| ?_
  refine C.cond' rfl (fun hc => ?_) (fun hc => ?_)
  ·
    refine C.seq <| C.region <| E.asg rfl rfl <| E.nil <| X.next <| C.ret <| X.retT <| ret1 rfl rfl ?_
    exact ⟨by rw [if_neg (fun h => hc h.2)], x1⟩
  ·
    refine C.skip <| X.next <| C.seq <| C.region <| E.asg rfl rfl <| E.nil <| X.next <| C.ret <| ret1 rfl rfl ?_
    exact ⟨by rw [if_pos ⟨hok, by omega⟩], x1⟩
theorem Valid_ret (W Ht : Int) (vd : Value) (n : Nat) (w : World) (hv : ∃ a cap, vd = .slice a n cap) :
    Ret Try.prog 41 #[mat W Ht vd] w fun v w' => v = .bool (decide (okMat W Ht n)) ∧ Ext w w' := by
  refine enter Try.func41 rfl (by kernel_rfl) Try.ntmps41 rfl ?_
  refine C.seq <| C.region <| ?_
  refine E.boxB (cs := [i64 W, i64 Ht, vd]) rfl rfl rfl ?_
  intro w1 b1 x1 _
  refine E.asg rfl rfl <| E.nil <| X.next <| C.seq <| C.region <| ?_
  refine E.fld (o := 0) (sz := 0) rfl Try.underlying24 rfl rfl (by kernel_rfl) rfl ?_
  refine E.load rfl Try.underlying3 rfl (b1.cell 0) rfl ?_
  refine E.fld (o := 1) (sz := 0) rfl Try.underlying24 rfl rfl (by kernel_rfl) rfl ?_
  refine E.load rfl Try.underlying3 rfl (b1.cell 1) rfl ?_
  refine E.call rfl rfl (fits_ret W Ht _) ?_
  rintro _ _ ⟨rfl, rfl⟩
  refine E.mv rfl rfl <| ?_
  refine E.split 8 rfl (fun g8 => ?_) (fun g8 => ?_)
  case' refine_2 =>
    refine E.off rfl rfl rfl rfl <| E.off rfl rfl rfl rfl <| E.off rfl rfl rfl rfl <| E.off rfl rfl rfl rfl <| E.off rfl rfl rfl rfl <| E.off rfl rfl rfl rfl <| E.off rfl rfl rfl rfl <| E.off rfl rfl rfl rfl <| E.off rfl rfl rfl rfl <| E.pick rfl rfl rfl <| E.asg rfl rfl <| E.nil <| X.next <| C.ret <| ret1 rfl rfl ?_
    have hno : ¬ okSize W Ht := of_decide_eq_false g8
    exact ⟨by rw [decide_eq_false (fun h => hno h.1)], x1⟩
  have hok : okSize W Ht := of_decide_eq_true g8
  have hm := mul_small hok.1 hok.2.1 hok.2.2.1 hok.2.2.2.1
  refine E.on rfl rfl (E.fld (o := 2) (sz := 0) rfl Try.underlying24 rfl rfl (by kernel_rfl) rfl ?_)
  refine E.on rfl rfl (E.load rfl Try.underlying22 rfl (b1.cell 2) rfl ?_)
  refine E.on rfl rfl (E.lenv rfl hv Try.underlying22 rfl ?_)
  refine E.on rfl rfl (E.fld (o := 0) (sz := 0) rfl Try.underlying24 rfl rfl (by kernel_rfl) rfl ?_)
  refine E.on rfl rfl (E.load rfl Try.underlying3 rfl (b1.cell 0) rfl ?_)
  refine E.on rfl rfl (E.fld (o := 1) (sz := 0) rfl Try.underlying24 rfl rfl (by kernel_rfl) rfl ?_)
  refine E.on rfl rfl (E.load rfl Try.underlying3 rfl (b1.cell 1) rfl ?_)
  refine E.on rfl rfl (E.mul rfl rfl (by omega) rfl ?_)
  refine E.on rfl rfl (E.bin rfl rfl rfl rfl ?_)
  refine E.pick rfl rfl rfl <| E.asg rfl rfl <| E.nil <| X.next <| C.ret <| ret1 rfl rfl ?_
  exact ⟨congrArg Value.bool (decide_eq_decide.2 ⟨fun h => ⟨hok, h⟩, fun h => h.2⟩), x1⟩
theorem rCheck_ret (W Ht : Int) (vd : Value) (n : Nat) (w : World) (hv : ∃ a cap, vd = .slice a n cap) :
    Ret Try.prog 24 #[mat W Ht vd] w fun v w' => v = i64 (if okMat W Ht n then 0 else 1) ∧ Ext w w' := by
  refine enter Try.func24 rfl (by kernel_rfl) Try.ntmps24 rfl ?_
  refine C.seq <| C.region <| ?_
  refine E.boxB (cs := [i64 W, i64 Ht, vd]) rfl rfl rfl ?_
  intro w1 b1 x1 _
  refine E.asg rfl rfl <| E.nil <| X.next <| C.seq <| C.seq <| C.region <| ?_
  refine E.loadA rfl Try.underlying24 rfl (by kernel_rfl) (b1.at 0 [i64 W, i64 Ht, vd] (fun j u h => by simpa using h)) rfl ?_
  refine E.call rfl rfl (Valid_ret W Ht vd n _ hv) ?_
  rintro _ w2 ⟨rfl, x2⟩
  refine E.not rfl rfl <| E.nil <| X.next <| ?_
  refine C.cond rfl (fun hc => ?_) (fun hc => ?_)
  ·
    refine C.seq <| C.region <| E.asg rfl rfl <| E.nil <| X.next <| C.ret <| X.retT <| ret1 rfl rfl ?_
    exact ⟨by rw [if_neg (by simpa using hc)], x1.trans x2⟩
  ·
    refine C.skip <| X.next <| C.seq <| C.region <| E.asg rfl rfl <| E.nil <| X.next <| C.ret <| ret1 rfl rfl ?_
    exact ⟨by rw [if_pos (by simpa using hc)], x1.trans x2⟩
end Go.Proofs.Ytnnmebpahickhaa
