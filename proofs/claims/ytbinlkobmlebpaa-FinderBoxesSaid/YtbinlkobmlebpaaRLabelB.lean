/- reference of components: Label, hole. -/
import Derived.Test.YtbinlkobmlebpaaB0
import Derived.Test.YtbinlkobmlebpaaB16
set_option linter.unusedSimpArgs false
set_option linter.unusedVariables false
namespace Go.Proofs.Ytbinlkobmlebpaa
open Go.RowKit Sym Uf
set_option maxHeartbeats 1000000 in
theorem rLabel_ret (W Ht : Int) (vd : Value) (dk : List Bool) (eight : Bool) (w : World) (hr : RdL Value.bool w vd dk) :
  Ret Try.prog 40 #[mat W Ht vd, .bool eight] w fun v w' => LabelAns W Ht dk eight v w w' ∧ Ext w w' := by
 have hM := M.start w
 refine enter Try.func40 rfl (by kernel_rfl) Try.ntmps40 rfl ?_
 refine C.seq <| C.region <| ?_
 refine E.boxM hM rfl rfl rfl ?_
 intro b2 w0 hM
 try dsimp only [Za, Zb, Zc, Zd, repl] at hM
 refine E.asg rfl rfl <| E.asg rfl rfl <| E.asg rfl rfl <| E.nil <| X.next <| C.seq <| C.seq <| C.region <| ?_
 refine E.loadA rfl Try.underlying37 rfl (by kernel_rfl) (by exact hM.bat 0 rfl) rfl ?_
 refine E.call rfl rfl (rCheck_ret W Ht vd dk.length _ hr.shape) ?_
 rintro _ w9 ⟨rfl, x9⟩
 have hM := hM.ext x9
 try dsimp only [Za, Zb, Zc, Zd, repl] at hM
 refine E.bin rfl rfl rfl rfl <| E.nil <| X.next <| ?_
 refine C.cond' rfl (fun hC0 => ?_) (fun hC0 => ?_)
 ·
  have hno : ¬ okMat W Ht dk.length := fun h => by rw [if_pos h] at hC0; exact hC0 rfl
  refine C.seq <| C.region <| E.asg rfl rfl <| E.asg rfl rfl <| E.asg rfl rfl <| E.nil <| X.next <| C.ret <| X.retT <| ret3 rfl rfl rfl rfl ?_
  exact ⟨.inl ⟨hno, rfl⟩, hM.toExt⟩
 ·
  have hok : okMat W Ht dk.length := Decidable.byContradiction fun h => by rw [if_neg h] at hC0; exact hC0 (by decide)
  obtain ⟨a, b, rfl, rfl, hW, hH, hn, hn0⟩ := hok.nat
  refine C.skip <| X.next <| C.seq <| C.region <| ?_
  refine E.loadA rfl Try.underlying37 rfl (by kernel_rfl) (by exact hM.bat 0 rfl) rfl ?_
  refine E.mv rfl rfl <| ?_
  refine E.call rfl rfl (rparts_ret a b vd dk true eight _ hW hH hn hn0 (hM.arg0 hr)) ?_
  rintro _ w10 ⟨va, vb, lab, bl, rfl, hL, m⟩
  have hM := hM.call m
  try dsimp only [Za, Zb, Zc, Zd, repl] at hM
  have hnum := hL.num
  refine E.mv rfl rfl <| E.ext rfl rfl rfl <| E.ext rfl rfl rfl <| E.asg rfl rfl <| E.asg rfl rfl <| E.nil <| X.next <| C.seq <| C.seq <| C.region <| E.mv rfl rfl <| ?_
  refine E.lenv rfl (RdF.shape (by exact hM.slF 2 rfl)) Try.underlying69 rfl ?_
  refine E.bin rfl rfl rfl rfl <| E.nil <| X.next <| ?_
  refine C.cond' rfl (fun hC1 => ?_) (fun hC1 => ?_)
  ·
   refine C.seq <| C.region <| E.asg rfl rfl <| E.asg rfl rfl <| E.asg rfl rfl <| E.nil <| X.next <| C.ret <| X.retT <| ret3 rfl rfl rfl rfl ?_
   exact ⟨.inr (.inl ⟨hok, by show 65536 < nf _ (RR a eight dk true) _; omega, rfl⟩), hM.toExt⟩
  ·
   refine C.skip <| X.next <| C.seq <| C.region <| E.mv rfl rfl <| E.mv rfl rfl <| E.asg rfl rfl <| E.asg rfl rfl <| E.asg rfl rfl <| E.nil <| X.next <| C.ret <| ret3 rfl rfl rfl rfl ?_
   exact ⟨.inr (.inr ⟨hok, by show nf _ (RR a eight dk true) _ ≤ 65536; omega, va, vb, lab, bl, rfl, hM.pick [1, 2] (by decide), hL⟩), hM.toExt⟩
def Hb (W Ht : Int) (b : Bl) : Prop := 0 < b.x ∧ 0 < b.y ∧ b.x + b.w < W ∧ b.y + b.h < Ht
instance (W Ht : Int) (b : Bl) : Decidable (Hb W Ht b) := by unfold Hb; exact inferInstance
end Go.Proofs.Ytbinlkobmlebpaa
