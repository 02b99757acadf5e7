/- reference of components: spread. -/
import Derived.Test.YtnnmebpahickhaaFlood
import Derived.Test.YtnnmebpahickhaaSymS
import Derived.Test.YtnnmebpahickhaaSymQ
namespace Go.Proofs.Ytnnmebpahickhaa
set_option linter.unusedSimpArgs false
set_option linter.unusedVariables false
open Go.RowKit Sym Uf

/-- a row that is newer than w has grown -/
theorem grown_fresh {w w1 w2 : World} {r : Option Nat} {g : Option Nat} (h : w.grownBy w1 r) (k : w1.grownBy w2 g) (hg : ∀ x, g = some x → w.heap.size ≤ x) : w.grownBy w2 r := by
  obtain ⟨h1, h2, h3, h4, h5⟩ := h
  obtain ⟨k1, k2, k3, k4, k5⟩ := k
  refine ⟨k1.trans h1, k2.trans h2, k3.trans h3, by omega, fun i hi hne => ?_⟩
  rw [k5 i (by omega) (fun e => by have := hg i e.symm; omega)]
  exact h5 i hi hne
theorem Fl.le {W H : Nat} {eight : Bool} {dk : List Bool} {dark : Bool} {f : Nat} {num : Int} {lab0 lab : List Int} {found : List Nat} {i : Nat} (h : Fl W H eight dk dark f num lab0 lab found i) : found.length ≤ dk.length := by
  have := List.Nodup.length_le_of_subset (l₂ := List.range dk.length) h.nodup (fun x hx => List.mem_range.2 (List.getElem?_eq_some_iff.1 (h.ins x hx).1).1)
  simpa using this
/-- numbers of pixels, as they lie in memory -/
abbrev px (n : Nat) : Value := i64 (n : Int)
/-- the memory of spread -/
structure FW (w w' : World) (B0 bm : Nat) (vl vf vd : Value) (W H : Nat) (dk : List Bool) (lab : List Int) (found : List Nat) : Prop where
  ol : OwnL i64 w' B0 3 vl lab
  of : OwnL px w' w.heap.size 3 vf found
  hm : Blk w' bm 24 #[i64 W, i64 H, vd]
  rd : RdL Value.bool w' vd dk
  rb : dk = [] ∨ (vl.ownBlock ≠ some (bs vd).1 ∧ (bs vd).1 < w.heap.size)
  ap : Apart vl vf
  nl : vl.ownBlock ≠ some bm
  nf : vf.ownBlock ≠ some bm
  gr : w.grownBy w' vl.ownBlock
section
variable {w w' w'' : World} {B0 bm : Nat} {vl vf vd : Value} {W H : Nat} {dk : List Bool} {lab : List Int} {found : List Nat}
theorem FW.ext (h : FW w w' B0 bm vl vf vd W H dk lab found) (k : Ext w' w'') : FW w w'' B0 bm vl vf vd W H dk lab found :=
  { h with ol := h.ol.kept k, of := h.of.kept k, hm := h.hm.ext k, rd := h.rd.ext k, gr := grown_trans h.gr (k.toGrown _) }
theorem FW.setL (h : FW w w' B0 bm vl vf vd W H dk lab found) {i : Nat} (hi : i < lab.length) (z : Int) : FW w (w'.setCell (el vl i) (i64 z)) B0 bm vl vf vd W H dk (lab.set i z) found := by
  obtain ⟨_, _, c3⟩ := h.ol.cellAt hi
  have g := grown_set w' (el vl i) (i64 z)
  rw [← c3] at g
  refine { h with ol := h.ol.set hi z, of := Own.apart h.of g h.ap, hm := Blk.apart h.hm g h.nl, rd := ?_, gr := grown_trans h.gr g }
  rcases h.rb with hb | hb
  · exact Rd.grown h.rd g (.inl (by rw [hb]; rfl))
  · exact Rd.grown h.rd g (.inr fun e => hb.1 e.symm)
theorem FW.push {vf' : Value} {found' : List Nat} (h : FW w w' B0 bm vl vf vd W H dk lab found) (g : w'.grownBy w'' vf.ownBlock) (ho : OwnL px w'' w.heap.size 3 vf' found') (hl : Lies w' vf vf') : FW w w'' B0 bm vl vf' vd W H dk lab found' := by
  refine { h with ol := Own.apart h.ol g h.ap.symm, of := ho, hm := Blk.apart h.hm g h.nf, rd := ?_, ap := (h.ap.symm.grow hl h.ol).symm, nf := ?_, gr := grown_fresh h.gr g fun x hx => (World.ownsRow.lt h.of x hx).1 }
  · rcases h.rb with hb | hb
    · exact Rd.grown h.rd g (.inl (by rw [hb]; rfl))
    · exact Rd.grown h.rd g (.inr fun e => by have := (World.ownsRow.lt h.of _ e.symm).1; omega)
  · rcases hl with hl | ⟨y, hl, hge⟩
    · rw [hl]; exact h.nf
    · rw [hl]; intro e; have := Option.some.inj e; have := h.hm.lt; omega
end

end Go.Proofs.Ytnnmebpahickhaa
