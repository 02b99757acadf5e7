/-
  No cell of these rows narrows 'for every input' (looked for: loops, veiled, ifaces, maps, wideKeys, modest, calm, conditions, laid).
  DERIVED. THE GIVEN ROWS OF THIS SEAT. 5 by the template 'for every input the law returns true; each argument reads behind the call as it read before'; 0 by the template 'total and deterministic' (their statements: YtbinlkobmlebpaaTotals.lean).
  GIVEN WITH THE SEED: the statements are not yours to turn. If you find one false, say at which input.
  Laid BY PROGRAM, IN A SANDBOX (cutbox-rows.mjs): the forced cells as the released guide's own fill.sh prints them over the translation 6e0a35d133bc8d87… (all of the seat's roots in one cut). By AI agents, Wed Nov 11 2026. No macro, syntax, notation, axiom, sorry.
-/
import Derived.Test.YtbinlkobmlebpaaChecked
import GoSem.Claim
import GoSem.ClaimJoined
import GoSem.ClaimMapViews
import Derived.JoinedTies
import Derived.KernelRfl
namespace Go.Proofs.Ytbinlkobmlebpaa
/- THE CELL 'sum', in the pinned program and in every row, IS THE sha256 OF THE DUMP (.gsa) THAT YtbinlkobmlebpaaProg.lean LOADS. Nothing in Lean hashes anything: it is a label: what it is worth is what the hold of that sum in a sandbox is worth. -/
noncomputable def Try.pinned : Pinned := { name := "ytbinlkobmlebpaa", sum := "6e0a35d133bc8d8715a14eca971689f2a4e511b730be90c028b0d9aa07fb2697", checked := Try.checked }
namespace Rows
def none {H : Type} : Left H := { results := [], args := [] }

/-- 'barscanlaw42.FinderTriples': WHATEVER THE INPUT: true; the input reads as it did. -/
def finderTriplesSpec : ChangeSpec := { name := "finderTriples", fn := fun _ => fun
  | [d1, d2] => { results := [.lit (.bool true)], args := [d1, d2] }
  | _ => none }
def finderTriplesRow : OpenClaim := { program := "ytbinlkobmlebpaa", sum := "6e0a35d133bc8d8715a14eca971689f2a4e511b730be90c028b0d9aa07fb2697", func := "barscan/barscanlaw42.FinderTriples", spec := "finderTriples", unfollowed := true, recurses := true, apart := false }
def FinderTriplesSaid : Prop := finderTriplesRow.holds Try.pinned (OpenSpec.ofChange finderTriplesSpec)

/-- ITS FALSE NEIGHBOUR: 'it returns false'. Refute it at one input. -/
def finderTriplesWrong : ChangeSpec := { name := "finderTriples", fn := fun _ => fun
  | [d1, d2] => { results := [.lit (.bool false)], args := [d1, d2] }
  | _ => none }
def FinderTriplesWrongFalsely : Prop := finderTriplesRow.holds Try.pinned (OpenSpec.ofChange finderTriplesWrong)

/-- 'barscanlaw42.FinderBoxes': WHATEVER THE INPUT: true; the input reads as it did. -/
def finderBoxesSpec : ChangeSpec := { name := "finderBoxes", fn := fun _ => fun
  | [d1, d2] => { results := [.lit (.bool true)], args := [d1, d2] }
  | _ => none }
def finderBoxesRow : OpenClaim := { program := "ytbinlkobmlebpaa", sum := "6e0a35d133bc8d8715a14eca971689f2a4e511b730be90c028b0d9aa07fb2697", func := "barscan/barscanlaw42.FinderBoxes", spec := "finderBoxes", unfollowed := true, recurses := true, apart := false }
def FinderBoxesSaid : Prop := finderBoxesRow.holds Try.pinned (OpenSpec.ofChange finderBoxesSpec)

/-- ITS FALSE NEIGHBOUR: 'it returns false'. Refute it at one input. -/
def finderBoxesWrong : ChangeSpec := { name := "finderBoxes", fn := fun _ => fun
  | [d1, d2] => { results := [.lit (.bool false)], args := [d1, d2] }
  | _ => none }
def FinderBoxesWrongFalsely : Prop := finderBoxesRow.holds Try.pinned (OpenSpec.ofChange finderBoxesWrong)

/-- 'barscanlaw42.FinderCodes': WHATEVER THE INPUT: true; the input reads as it did. -/
def finderCodesSpec : ChangeSpec := { name := "finderCodes", fn := fun _ => fun
  | [d1, d2, d3] => { results := [.lit (.bool true)], args := [d1, d2, d3] }
  | _ => none }
def finderCodesRow : OpenClaim := { program := "ytbinlkobmlebpaa", sum := "6e0a35d133bc8d8715a14eca971689f2a4e511b730be90c028b0d9aa07fb2697", func := "barscan/barscanlaw42.FinderCodes", spec := "finderCodes", unfollowed := true, recurses := true, apart := false }
def FinderCodesSaid : Prop := finderCodesRow.holds Try.pinned (OpenSpec.ofChange finderCodesSpec)

/-- ITS FALSE NEIGHBOUR: 'it returns false'. Refute it at one input. -/
def finderCodesWrong : ChangeSpec := { name := "finderCodes", fn := fun _ => fun
  | [d1, d2, d3] => { results := [.lit (.bool false)], args := [d1, d2, d3] }
  | _ => none }
def FinderCodesWrongFalsely : Prop := finderCodesRow.holds Try.pinned (OpenSpec.ofChange finderCodesWrong)

/-- 'barscanlaw42.FinderMarks': WHATEVER THE INPUT: true; the input reads as it did. -/
def finderMarksSpec : ChangeSpec := { name := "finderMarks", fn := fun _ => fun
  | [d] => { results := [.lit (.bool true)], args := [d] }
  | _ => none }
def finderMarksRow : OpenClaim := { program := "ytbinlkobmlebpaa", sum := "6e0a35d133bc8d8715a14eca971689f2a4e511b730be90c028b0d9aa07fb2697", func := "barscan/barscanlaw42.FinderMarks", spec := "finderMarks", unfollowed := true, recurses := true, apart := false }
def FinderMarksSaid : Prop := finderMarksRow.holds Try.pinned (OpenSpec.ofChange finderMarksSpec)

/-- ITS FALSE NEIGHBOUR: 'it returns false'. Refute it at one input. -/
def finderMarksWrong : ChangeSpec := { name := "finderMarks", fn := fun _ => fun
  | [d] => { results := [.lit (.bool false)], args := [d] }
  | _ => none }
def FinderMarksWrongFalsely : Prop := finderMarksRow.holds Try.pinned (OpenSpec.ofChange finderMarksWrong)

/-- 'barscanlaw42.FinderClean': WHATEVER THE INPUT: true; the input reads as it did. -/
def finderCleanSpec : ChangeSpec := { name := "finderClean", fn := fun _ => fun
  | [d1, d2, d3] => { results := [.lit (.bool true)], args := [d1, d2, d3] }
  | _ => none }
def finderCleanRow : OpenClaim := { program := "ytbinlkobmlebpaa", sum := "6e0a35d133bc8d8715a14eca971689f2a4e511b730be90c028b0d9aa07fb2697", func := "barscan/barscanlaw42.FinderClean", spec := "finderClean", unfollowed := true, recurses := true, apart := false }
def FinderCleanSaid : Prop := finderCleanRow.holds Try.pinned (OpenSpec.ofChange finderCleanSpec)

/-- ITS FALSE NEIGHBOUR: 'it returns false'. Refute it at one input. -/
def finderCleanWrong : ChangeSpec := { name := "finderClean", fn := fun _ => fun
  | [d1, d2, d3] => { results := [.lit (.bool false)], args := [d1, d2, d3] }
  | _ => none }
def FinderCleanWrongFalsely : Prop := finderCleanRow.holds Try.pinned (OpenSpec.ofChange finderCleanWrong)

/- THE SECOND FORM. 'bulk': how many values and letters a reading holds, each counted each time it is reached (what is shared counts as often as it is met; a slice's spare places count too). A statement '..UptoSaid' is the law's where the arguments, and the package variables that the reading takes, are together of bulk at most 1048576: NARROWER than '..Said'. Prove '..Said' where nothing that the law and all that it calls make is longer than what came in: it says more and counts as full. Else prove '..UptoSaid'. A law counts once. -/
mutual
def uptoBulk {H : Type} : DataW H → Nat
  | .lit (.string bytes) => bytes.length + 1
  | .lit _ => 1
  | .nil => 1
  | .ptr d => uptoBulk d + 1
  | .slice elems spare => uptoBulkAll elems + uptoBulkAll spare + 1
  | .agg parts => uptoBulkAll parts + 1
  | .iface _ d => uptoBulk d + 1
  | .map entries => uptoBulkEntries entries + 1
  | .held _ => 1
def uptoBulkAll {H : Type} : List (DataW H) → Nat
  | [] => 0
  | d :: r => uptoBulk d + uptoBulkAll r
def uptoBulkEntries {H : Type} : List (Lit × DataW H) → Nat
  | [] => 0
  | x :: r => uptoBulkEntry x + uptoBulkEntries r
def uptoBulkEntry {H : Type} : Lit × DataW H → Nat
  | (.string bytes, d) => bytes.length + uptoBulk d + 1
  | (_, d) => uptoBulk d + 1
 end
def uptoSmall : (H : Type) → List (DataW H) → Bool := fun _ ds => decide (uptoBulkAll ds ≤ 1048576)
def OpenSpec.upto (s : _root_.Go.ChangeSpec) : _root_.Go.OpenSpec := { _root_.Go.OpenSpec.ofChange s with cond := some uptoSmall }

/-- 'barscanlaw42.FinderTriples', WHERE WHAT IT READS IS OF BULK AT MOST 1048576: true; the input reads as it did. -/
def finderTriplesUptoRow : OpenClaim := { program := "ytbinlkobmlebpaa", sum := "6e0a35d133bc8d8715a14eca971689f2a4e511b730be90c028b0d9aa07fb2697", func := "barscan/barscanlaw42.FinderTriples", spec := "finderTriples", unfollowed := true, recurses := true, apart := false, narrowed := true }
def FinderTriplesUptoSaid : Prop := finderTriplesUptoRow.holds Try.pinned (OpenSpec.upto finderTriplesSpec)

/-- 'barscanlaw42.FinderBoxes', WHERE WHAT IT READS IS OF BULK AT MOST 1048576: true; the input reads as it did. -/
def finderBoxesUptoRow : OpenClaim := { program := "ytbinlkobmlebpaa", sum := "6e0a35d133bc8d8715a14eca971689f2a4e511b730be90c028b0d9aa07fb2697", func := "barscan/barscanlaw42.FinderBoxes", spec := "finderBoxes", unfollowed := true, recurses := true, apart := false, narrowed := true }
def FinderBoxesUptoSaid : Prop := finderBoxesUptoRow.holds Try.pinned (OpenSpec.upto finderBoxesSpec)

/-- 'barscanlaw42.FinderCodes', WHERE WHAT IT READS IS OF BULK AT MOST 1048576: true; the input reads as it did. -/
def finderCodesUptoRow : OpenClaim := { program := "ytbinlkobmlebpaa", sum := "6e0a35d133bc8d8715a14eca971689f2a4e511b730be90c028b0d9aa07fb2697", func := "barscan/barscanlaw42.FinderCodes", spec := "finderCodes", unfollowed := true, recurses := true, apart := false, narrowed := true }
def FinderCodesUptoSaid : Prop := finderCodesUptoRow.holds Try.pinned (OpenSpec.upto finderCodesSpec)

/-- 'barscanlaw42.FinderMarks', WHERE WHAT IT READS IS OF BULK AT MOST 1048576: true; the input reads as it did. -/
def finderMarksUptoRow : OpenClaim := { program := "ytbinlkobmlebpaa", sum := "6e0a35d133bc8d8715a14eca971689f2a4e511b730be90c028b0d9aa07fb2697", func := "barscan/barscanlaw42.FinderMarks", spec := "finderMarks", unfollowed := true, recurses := true, apart := false, narrowed := true }
def FinderMarksUptoSaid : Prop := finderMarksUptoRow.holds Try.pinned (OpenSpec.upto finderMarksSpec)

/-- 'barscanlaw42.FinderClean', WHERE WHAT IT READS IS OF BULK AT MOST 1048576: true; the input reads as it did. -/
def finderCleanUptoRow : OpenClaim := { program := "ytbinlkobmlebpaa", sum := "6e0a35d133bc8d8715a14eca971689f2a4e511b730be90c028b0d9aa07fb2697", func := "barscan/barscanlaw42.FinderClean", spec := "finderClean", unfollowed := true, recurses := true, apart := false, narrowed := true }
def FinderCleanUptoSaid : Prop := finderCleanUptoRow.holds Try.pinned (OpenSpec.upto finderCleanSpec)

end Rows
end Go.Proofs.Ytbinlkobmlebpaa
