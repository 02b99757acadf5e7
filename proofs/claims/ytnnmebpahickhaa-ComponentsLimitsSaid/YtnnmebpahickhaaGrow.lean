/- components: grow. -/
import Derived.Test.YtnnmebpahickhaaMat
import Derived.Test.YtnnmebpahickhaaSym8
import Derived.Test.YtnnmebpahickhaaSymQ
import Derived.Test.YtnnmebpahickhaaSymS
namespace Go.Proofs.Ytnnmebpahickhaa
set_option linter.unusedSimpArgs false
set_option linter.unusedVariables false
open Go.RowKit Sym

/-- a component: its box, its area, its first pixel -/
structure Bl where
  x : Int
  y : Int
  w : Int
  h : Int
  area : Int
  fx : Int
  fy : Int
def Bl.cells (b : Bl) : List Value := [i64 b.x, i64 b.y, i64 b.w, i64 b.h, i64 b.area, i64 b.fx, i64 b.fy]
def Bl.add (b : Bl) (px py : Int) : Bl := ⟨min b.x px, b.y, max (b.x + b.w) (px + 1) - min b.x px, max b.h (py - b.y + 1), b.area + 1, b.fx, b.fy⟩
/-- the numbers are small -/
def Bl.small (b : Bl) : Prop := 0 ≤ b.x ∧ b.x ≤ 5000000 ∧ 0 ≤ b.y ∧ b.y ≤ 5000000 ∧ 0 ≤ b.w ∧ b.w ≤ 5000000 ∧ 0 ≤ b.h ∧ b.h ≤ 5000000 ∧ 0 ≤ b.area ∧ b.area ≤ 5000000

set_option maxHeartbeats 1000000 in
theorem grow_ret (B : Nat) (v : Value) (l : List Bl) (q : Nat) (px py : Int) (w : World) (hO : OwnF Bl.cells 7 w B 38 v l) (hq : q < l.length) (hsm : l[q].small) (hx : 0 ≤ px ∧ px ≤ 5000000) (hy : 0 ≤ py ∧ py ≤ 5000000) :
    Ret Try.prog 37 #[.pointer (some (el v (q * 7))), .agg #[i64 px, i64 py]] w fun _ w' => OwnF Bl.cells 7 w' B 38 v (l.set q (l[q].add px py)) ∧ w.grownBy w' v.ownBlock := by
  obtain ⟨b, hb⟩ : ∃ b, b = l[q] := ⟨_, rfl⟩
  rw [← hb] at hsm ⊢
  obtain ⟨s1, s2, s3, s4, s5, s6, s7, s8, s9, s10⟩ := hsm
  have cb : Bl.cells l[q] = b.cells := by rw [hb]
  refine enter Try.func37 rfl (by kernel_rfl) Try.ntmps37 rfl ?_
  refine C.seq <| C.region <| ?_
  refine E.boxB (cs := [i64 px, i64 py]) rfl rfl rfl ?_
  intro w1 b1 x1 _
  have O1 := hO.kept x1
  have nv : v.ownBlock ≠ some w.heap.size := fun e => by have := (World.ownsRow.lt hO.2 _ e).2; omega

  refine E.nil <| X.next <| C.seq <| C.drawn (by kernel_rfl) (by kernel_rfl) <| ?_
  refine Q.mv rfl rfl ?_
  refine Q.nilc rfl rfl ?_
  refine Q.fld (o := 0) (sz := 3) rfl Try.underlying38 rfl rfl (by kernel_rfl) rfl ?_
  refine Q.fld (o := 0) (sz := 0) rfl Try.underlying34 rfl rfl (by kernel_rfl) rfl ?_
  refine Q.load rfl Try.underlying3 rfl (O1.cellF hq 0 (by rw [cb]; rfl) rfl) rfl ?_
  refine Q.mv rfl rfl ?_
  refine Q.nilc rfl rfl ?_
  refine Q.fld (o := 0) (sz := 3) rfl Try.underlying38 rfl rfl (by kernel_rfl) rfl ?_
  refine Q.fld (o := 2) (sz := 0) rfl Try.underlying34 rfl rfl (by kernel_rfl) rfl ?_
  refine Q.load rfl Try.underlying3 rfl (O1.cellF hq 2 (by rw [cb]; rfl) rfl) rfl ?_
  refine Q.add rfl rfl (by omega) rfl ?_
  refine Q.fld (o := 0) (sz := 0) rfl Try.underlying36 rfl rfl (by kernel_rfl) rfl ?_
  refine Q.load rfl Try.underlying3 rfl (b1.cell 0) rfl ?_
  refine Q.add rfl rfl (by omega) rfl ?_
  refine Q.max2 rfl rfl rfl ?_
  refine Q.asg rfl rfl ?_

  refine Q.nil <| fun w2 x2 => X.next <| C.seq <| C.drawnT 12 (by kernel_rfl) (by kernel_rfl) fun w3 x3 => ?_
  have O3 := O1.kept (x2.trans x3)
  have b3 := b1.ext (x2.trans x3)
  refine S.mv rfl rfl ?_
  refine S.mv rfl rfl ?_
  refine S.nilc rfl rfl ?_
  refine S.fld (o := 0) (sz := 3) rfl Try.underlying38 rfl rfl (by kernel_rfl) rfl ?_
  refine S.fld (o := 0) (sz := 0) rfl Try.underlying34 rfl rfl (by kernel_rfl) rfl ?_
  refine S.load rfl Try.underlying3 rfl (O3.cellF hq 0 (by rw [cb]; rfl) rfl) rfl ?_
  refine S.fld (o := 0) (sz := 0) rfl Try.underlying36 rfl rfl (by kernel_rfl) rfl ?_
  refine S.load rfl Try.underlying3 rfl (b3.cell 0) rfl ?_
  refine S.min2 rfl rfl rfl ?_
  refine S.nilc rfl rfl ?_
  refine S.fld (o := 0) (sz := 3) rfl Try.underlying38 rfl rfl (by kernel_rfl) rfl ?_
  refine S.fld (o := 0) (sz := 0) rfl Try.underlying34 rfl rfl (by kernel_rfl) rfl ?_
  refine S.nil ?_
  refine E.storeF 0 ⟨min b.x px, b.y, b.w, b.h, b.area, b.fx, b.fy⟩ rfl rfl (by kernel_rfl) rfl O3 hq rfl (by rw [cb]; rfl) (by rw [cb]; rfl) ?_
  intro w4 O4 g4 _
  have q4 : q < (l.set q ⟨min b.x px, b.y, b.w, b.h, b.area, b.fx, b.fy⟩).length := by rw [List.length_set]; exact hq
  have c4 : Bl.cells (l.set q ⟨min b.x px, b.y, b.w, b.h, b.area, b.fx, b.fy⟩)[q] = Bl.cells ⟨min b.x px, b.y, b.w, b.h, b.area, b.fx, b.fy⟩ := by rw [List.getElem_set_self]
  have b4 := Blk.apart b3 g4 nv
  refine E.nil <| X.next <| C.seq <| C.region <| E.mv rfl rfl <| E.mv rfl rfl <| E.mv rfl rfl <| E.nilc rfl rfl <| ?_
  refine E.fld (o := 0) (sz := 3) rfl Try.underlying38 rfl rfl (by kernel_rfl) rfl ?_
  refine E.fld (o := 0) (sz := 0) rfl Try.underlying34 rfl rfl (by kernel_rfl) rfl ?_
  refine E.load rfl Try.underlying3 rfl (O4.cellF q4 0 (by rw [c4]; rfl) rfl) rfl ?_
  refine E.sub' rfl rfl (by simp only; omega) rfl ?_
  refine E.nilc rfl rfl <| ?_
  refine E.fld (o := 0) (sz := 3) rfl Try.underlying38 rfl rfl (by kernel_rfl) rfl ?_
  refine E.fld (o := 2) (sz := 0) rfl Try.underlying34 rfl rfl (by kernel_rfl) rfl ?_
  refine E.storeF 2 ⟨min b.x px, b.y, max (b.x + b.w) (px + 1) - min b.x px, b.h, b.area, b.fx, b.fy⟩ rfl rfl (by kernel_rfl) rfl O4 q4 rfl (by rw [c4]; rfl) (by rw [c4]; rfl) ?_
  intro w5 O5 g5 _
  rw [List.set_set] at O5
  have q5 : q < (l.set q ⟨min b.x px, b.y, max (b.x + b.w) (px + 1) - min b.x px, b.h, b.area, b.fx, b.fy⟩).length := by rw [List.length_set]; exact hq
  have c5 : Bl.cells (l.set q ⟨min b.x px, b.y, max (b.x + b.w) (px + 1) - min b.x px, b.h, b.area, b.fx, b.fy⟩)[q] = Bl.cells ⟨min b.x px, b.y, max (b.x + b.w) (px + 1) - min b.x px, b.h, b.area, b.fx, b.fy⟩ := by rw [List.getElem_set_self]
  have b5 := Blk.apart b4 g5 nv

  refine E.nil <| X.next <| C.seq <| C.drawnT 19 (by kernel_rfl) (by kernel_rfl) fun w6 x6 => ?_
  have O6 := O5.kept x6
  have b6 := b5.ext x6
  refine S.mv rfl rfl ?_
  refine S.mv rfl rfl ?_
  refine S.nilc rfl rfl ?_
  refine S.fld (o := 0) (sz := 3) rfl Try.underlying38 rfl rfl (by kernel_rfl) rfl ?_
  refine S.fld (o := 3) (sz := 0) rfl Try.underlying34 rfl rfl (by kernel_rfl) rfl ?_
  refine S.load rfl Try.underlying3 rfl (O6.cellF q5 3 (by rw [c5]; rfl) rfl) rfl ?_
  refine S.fld (o := 1) (sz := 0) rfl Try.underlying36 rfl rfl (by kernel_rfl) rfl ?_
  refine S.load rfl Try.underlying3 rfl (b6.cell 1) rfl ?_
  refine S.mv rfl rfl ?_
  refine S.nilc rfl rfl ?_
  refine S.fld (o := 0) (sz := 3) rfl Try.underlying38 rfl rfl (by kernel_rfl) rfl ?_
  refine S.fld (o := 1) (sz := 0) rfl Try.underlying34 rfl rfl (by kernel_rfl) rfl ?_
  refine S.load rfl Try.underlying3 rfl (O6.cellF q5 1 (by rw [c5]; rfl) rfl) rfl ?_
  refine S.sub' rfl rfl (by simp only; omega) rfl ?_
  refine S.add rfl rfl (by simp only; omega) rfl ?_
  refine S.max2 rfl rfl rfl ?_
  refine S.nilc rfl rfl ?_
  refine S.fld (o := 0) (sz := 3) rfl Try.underlying38 rfl rfl (by kernel_rfl) rfl ?_
  refine S.fld (o := 3) (sz := 0) rfl Try.underlying34 rfl rfl (by kernel_rfl) rfl ?_
  refine S.nil ?_
  refine E.storeF 3 ⟨min b.x px, b.y, max (b.x + b.w) (px + 1) - min b.x px, max b.h (py - b.y + 1), b.area, b.fx, b.fy⟩ rfl rfl (by kernel_rfl) rfl O6 q5 rfl (by rw [c5]; rfl) (by rw [c5]; rfl) ?_
  intro w7 O7 g7 _
  rw [List.set_set] at O7
  have q7 : q < (l.set q ⟨min b.x px, b.y, max (b.x + b.w) (px + 1) - min b.x px, max b.h (py - b.y + 1), b.area, b.fx, b.fy⟩).length := by rw [List.length_set]; exact hq
  have c7 : Bl.cells (l.set q ⟨min b.x px, b.y, max (b.x + b.w) (px + 1) - min b.x px, max b.h (py - b.y + 1), b.area, b.fx, b.fy⟩)[q] = Bl.cells ⟨min b.x px, b.y, max (b.x + b.w) (px + 1) - min b.x px, max b.h (py - b.y + 1), b.area, b.fx, b.fy⟩ := by rw [List.getElem_set_self]
  refine E.nil <| X.next <| C.region <| E.mv rfl rfl <| E.nilc rfl rfl <| ?_
  refine E.fld (o := 4) (sz := 0) rfl Try.underlying38 rfl rfl (by kernel_rfl) rfl ?_
  refine E.load rfl Try.underlying3 rfl (O7.cellF q7 4 (by rw [c7]; rfl) rfl) rfl ?_
  refine E.add rfl rfl (by simp only; omega) rfl ?_
  refine E.nilc rfl rfl <| ?_
  refine E.fld (o := 4) (sz := 0) rfl Try.underlying38 rfl rfl (by kernel_rfl) rfl ?_
  refine E.storeF 4 (b.add px py) rfl rfl (by kernel_rfl) rfl O7 q7 rfl (by rw [c7]; rfl) (by rw [c7]; rfl) ?_
  intro w8 O8 g8 _
  rw [List.set_set] at O8
  have q8 : q < (l.set q (b.add px py)).length := by rw [List.length_set]; exact hq
  have c8 : Bl.cells (l.set q (b.add px py))[q] = Bl.cells (b.add px py) := by rw [List.getElem_set_self]
  refine E.nil <| end0 rfl ?_
  exact ⟨O8, grown_trans (grown_trans (grown_trans (grown_trans (grown_trans ((x1.trans (x2.trans x3)).toGrown _) g4) g5) (x6.toGrown _)) g7) g8⟩
end Go.Proofs.Ytnnmebpahickhaa
