/-
  No cell of these rows narrows 'for every input' (looked for: loops, veiled, ifaces, maps, wideKeys, modest, calm, conditions, laid).
  DERIVED. THE GIVEN ROWS OF THIS SEAT. 9 by the template 'for every input the law returns true; each argument reads behind the call as it read before'; 0 by the template 'total and deterministic' (their statements: YtnnmebpahickhaaTotals.lean).
  GIVEN WITH THE SEED: the statements are not yours to turn. If you find one false, say at which input.
  Laid BY PROGRAM, IN A SANDBOX (cutbox-rows.mjs): the forced cells as the released guide's own fill.sh prints them over the translation 3d0ce50830bd9be2… (all of the seat's roots in one cut). By AI agents, Wed Nov 11 2026. No macro, syntax, notation, axiom, sorry.
-/
import Derived.Test.YtnnmebpahickhaaChecked
import GoSem.Claim
import GoSem.ClaimJoined
import GoSem.ClaimMapViews
import Derived.JoinedTies
import Derived.KernelRfl
namespace Go.Proofs.Ytnnmebpahickhaa
/- THE CELL 'sum', in the pinned program and in every row, IS THE sha256 OF THE DUMP (.gsa) THAT YtnnmebpahickhaaProg.lean LOADS. Nothing in Lean hashes anything: it is a label: what it is worth is what the hold of that sum in a sandbox is worth. -/
noncomputable def Try.pinned : Pinned := { name := "ytnnmebpahickhaa", sum := "3d0ce50830bd9be2abf4edb15feab8b1312daf28fc1a1960abb141a5b77a7cd5", checked := Try.checked }
namespace Rows
def none {H : Type} : Left H := { results := [], args := [] }

/-- 'barscanlaw38.ComponentsLabels': WHATEVER THE INPUT: true; the input reads as it did. -/
def componentsLabelsSpec : ChangeSpec := { name := "componentsLabels", fn := fun _ => fun
  | [d1, d2] => { results := [.lit (.bool true)], args := [d1, d2] }
  | _ => none }
def componentsLabelsRow : OpenClaim := { program := "ytnnmebpahickhaa", sum := "3d0ce50830bd9be2abf4edb15feab8b1312daf28fc1a1960abb141a5b77a7cd5", func := "barscan/barscanlaw38.ComponentsLabels", spec := "componentsLabels", unfollowed := true, recurses := true, apart := false }
def ComponentsLabelsSaid : Prop := componentsLabelsRow.holds Try.pinned (OpenSpec.ofChange componentsLabelsSpec)

/-- ITS FALSE NEIGHBOUR: 'it returns false'. Refute it at one input. -/
def componentsLabelsWrong : ChangeSpec := { name := "componentsLabels", fn := fun _ => fun
  | [d1, d2] => { results := [.lit (.bool false)], args := [d1, d2] }
  | _ => none }
def ComponentsLabelsWrongFalsely : Prop := componentsLabelsRow.holds Try.pinned (OpenSpec.ofChange componentsLabelsWrong)

/-- 'barscanlaw38.ComponentsCleans': WHATEVER THE INPUT: true; the input reads as it did. -/
def componentsCleansSpec : ChangeSpec := { name := "componentsCleans", fn := fun _ => fun
  | [d1, d2] => { results := [.lit (.bool true)], args := [d1, d2] }
  | _ => none }
def componentsCleansRow : OpenClaim := { program := "ytnnmebpahickhaa", sum := "3d0ce50830bd9be2abf4edb15feab8b1312daf28fc1a1960abb141a5b77a7cd5", func := "barscan/barscanlaw38.ComponentsCleans", spec := "componentsCleans", unfollowed := true, recurses := true, apart := false }
def ComponentsCleansSaid : Prop := componentsCleansRow.holds Try.pinned (OpenSpec.ofChange componentsCleansSpec)

/-- ITS FALSE NEIGHBOUR: 'it returns false'. Refute it at one input. -/
def componentsCleansWrong : ChangeSpec := { name := "componentsCleans", fn := fun _ => fun
  | [d1, d2] => { results := [.lit (.bool false)], args := [d1, d2] }
  | _ => none }
def ComponentsCleansWrongFalsely : Prop := componentsCleansRow.holds Try.pinned (OpenSpec.ofChange componentsCleansWrong)

/-- 'barscanlaw38.ComponentsEuler': WHATEVER THE INPUT: true; the input reads as it did. -/
def componentsEulerSpec : ChangeSpec := { name := "componentsEuler", fn := fun _ => fun
  | [d] => { results := [.lit (.bool true)], args := [d] }
  | _ => none }
def componentsEulerRow : OpenClaim := { program := "ytnnmebpahickhaa", sum := "3d0ce50830bd9be2abf4edb15feab8b1312daf28fc1a1960abb141a5b77a7cd5", func := "barscan/barscanlaw38.ComponentsEuler", spec := "componentsEuler", unfollowed := true, recurses := true, apart := false }
def ComponentsEulerSaid : Prop := componentsEulerRow.holds Try.pinned (OpenSpec.ofChange componentsEulerSpec)

/-- ITS FALSE NEIGHBOUR: 'it returns false'. Refute it at one input. -/
def componentsEulerWrong : ChangeSpec := { name := "componentsEuler", fn := fun _ => fun
  | [d] => { results := [.lit (.bool false)], args := [d] }
  | _ => none }
def ComponentsEulerWrongFalsely : Prop := componentsEulerRow.holds Try.pinned (OpenSpec.ofChange componentsEulerWrong)

/-- 'barscanlaw38.ComponentsLimits': WHATEVER THE INPUT: true; the input reads as it did. -/
def componentsLimitsSpec : ChangeSpec := { name := "componentsLimits", fn := fun _ => fun
  | [d1, d2] => { results := [.lit (.bool true)], args := [d1, d2] }
  | _ => none }
def componentsLimitsRow : OpenClaim := { program := "ytnnmebpahickhaa", sum := "3d0ce50830bd9be2abf4edb15feab8b1312daf28fc1a1960abb141a5b77a7cd5", func := "barscan/barscanlaw38.ComponentsLimits", spec := "componentsLimits", unfollowed := true, recurses := true, apart := false }
def ComponentsLimitsSaid : Prop := componentsLimitsRow.holds Try.pinned (OpenSpec.ofChange componentsLimitsSpec)

/-- ITS FALSE NEIGHBOUR: 'it returns false'. Refute it at one input. -/
def componentsLimitsWrong : ChangeSpec := { name := "componentsLimits", fn := fun _ => fun
  | [d1, d2] => { results := [.lit (.bool false)], args := [d1, d2] }
  | _ => none }
def ComponentsLimitsWrongFalsely : Prop := componentsLimitsRow.holds Try.pinned (OpenSpec.ofChange componentsLimitsWrong)

/-- 'barscanlaw38.ComponentsParts': WHATEVER THE INPUT: true; the input reads as it did. -/
def componentsPartsSpec : ChangeSpec := { name := "componentsParts", fn := fun _ => fun
  | [d1, d2] => { results := [.lit (.bool true)], args := [d1, d2] }
  | _ => none }
def componentsPartsRow : OpenClaim := { program := "ytnnmebpahickhaa", sum := "3d0ce50830bd9be2abf4edb15feab8b1312daf28fc1a1960abb141a5b77a7cd5", func := "barscan/barscanlaw38.ComponentsParts", spec := "componentsParts", unfollowed := true, recurses := true, apart := false }
def ComponentsPartsSaid : Prop := componentsPartsRow.holds Try.pinned (OpenSpec.ofChange componentsPartsSpec)

/-- ITS FALSE NEIGHBOUR: 'it returns false'. Refute it at one input. -/
def componentsPartsWrong : ChangeSpec := { name := "componentsParts", fn := fun _ => fun
  | [d1, d2] => { results := [.lit (.bool false)], args := [d1, d2] }
  | _ => none }
def ComponentsPartsWrongFalsely : Prop := componentsPartsRow.holds Try.pinned (OpenSpec.ofChange componentsPartsWrong)

/-- 'barscanlaw38.ComponentsLocal': WHATEVER THE INPUT: true; the input reads as it did. -/
def componentsLocalSpec : ChangeSpec := { name := "componentsLocal", fn := fun _ => fun
  | [d] => { results := [.lit (.bool true)], args := [d] }
  | _ => none }
def componentsLocalRow : OpenClaim := { program := "ytnnmebpahickhaa", sum := "3d0ce50830bd9be2abf4edb15feab8b1312daf28fc1a1960abb141a5b77a7cd5", func := "barscan/barscanlaw38.ComponentsLocal", spec := "componentsLocal", unfollowed := true, recurses := true, apart := false }
def ComponentsLocalSaid : Prop := componentsLocalRow.holds Try.pinned (OpenSpec.ofChange componentsLocalSpec)

/-- ITS FALSE NEIGHBOUR: 'it returns false'. Refute it at one input. -/
def componentsLocalWrong : ChangeSpec := { name := "componentsLocal", fn := fun _ => fun
  | [d] => { results := [.lit (.bool false)], args := [d] }
  | _ => none }
def ComponentsLocalWrongFalsely : Prop := componentsLocalRow.holds Try.pinned (OpenSpec.ofChange componentsLocalWrong)

/-- 'barscanlaw38.ComponentsIdempotent': WHATEVER THE INPUT: true; the input reads as it did. -/
def componentsIdempotentSpec : ChangeSpec := { name := "componentsIdempotent", fn := fun _ => fun
  | [d1, d2] => { results := [.lit (.bool true)], args := [d1, d2] }
  | _ => none }
def componentsIdempotentRow : OpenClaim := { program := "ytnnmebpahickhaa", sum := "3d0ce50830bd9be2abf4edb15feab8b1312daf28fc1a1960abb141a5b77a7cd5", func := "barscan/barscanlaw38.ComponentsIdempotent", spec := "componentsIdempotent", unfollowed := true, recurses := true, apart := false }
def ComponentsIdempotentSaid : Prop := componentsIdempotentRow.holds Try.pinned (OpenSpec.ofChange componentsIdempotentSpec)

/-- ITS FALSE NEIGHBOUR: 'it returns false'. Refute it at one input. -/
def componentsIdempotentWrong : ChangeSpec := { name := "componentsIdempotent", fn := fun _ => fun
  | [d1, d2] => { results := [.lit (.bool false)], args := [d1, d2] }
  | _ => none }
def ComponentsIdempotentWrongFalsely : Prop := componentsIdempotentRow.holds Try.pinned (OpenSpec.ofChange componentsIdempotentWrong)

/-- 'barscanlaw38.ComponentsSymmetric': WHATEVER THE INPUT: true; the input reads as it did. -/
def componentsSymmetricSpec : ChangeSpec := { name := "componentsSymmetric", fn := fun _ => fun
  | [d1, d2] => { results := [.lit (.bool true)], args := [d1, d2] }
  | _ => none }
def componentsSymmetricRow : OpenClaim := { program := "ytnnmebpahickhaa", sum := "3d0ce50830bd9be2abf4edb15feab8b1312daf28fc1a1960abb141a5b77a7cd5", func := "barscan/barscanlaw38.ComponentsSymmetric", spec := "componentsSymmetric", unfollowed := true, recurses := true, apart := false }
def ComponentsSymmetricSaid : Prop := componentsSymmetricRow.holds Try.pinned (OpenSpec.ofChange componentsSymmetricSpec)

/-- ITS FALSE NEIGHBOUR: 'it returns false'. Refute it at one input. -/
def componentsSymmetricWrong : ChangeSpec := { name := "componentsSymmetric", fn := fun _ => fun
  | [d1, d2] => { results := [.lit (.bool false)], args := [d1, d2] }
  | _ => none }
def ComponentsSymmetricWrongFalsely : Prop := componentsSymmetricRow.holds Try.pinned (OpenSpec.ofChange componentsSymmetricWrong)

/-- 'barscanlaw38.ComponentsExtracts': WHATEVER THE INPUT: true; the input reads as it did. -/
def componentsExtractsSpec : ChangeSpec := { name := "componentsExtracts", fn := fun _ => fun
  | [d1, d2, d3, d4] => { results := [.lit (.bool true)], args := [d1, d2, d3, d4] }
  | _ => none }
def componentsExtractsRow : OpenClaim := { program := "ytnnmebpahickhaa", sum := "3d0ce50830bd9be2abf4edb15feab8b1312daf28fc1a1960abb141a5b77a7cd5", func := "barscan/barscanlaw38.ComponentsExtracts", spec := "componentsExtracts", unfollowed := true, recurses := true, apart := false }
def ComponentsExtractsSaid : Prop := componentsExtractsRow.holds Try.pinned (OpenSpec.ofChange componentsExtractsSpec)

/-- ITS FALSE NEIGHBOUR: 'it returns false'. Refute it at one input. -/
def componentsExtractsWrong : ChangeSpec := { name := "componentsExtracts", fn := fun _ => fun
  | [d1, d2, d3, d4] => { results := [.lit (.bool false)], args := [d1, d2, d3, d4] }
  | _ => none }
def ComponentsExtractsWrongFalsely : Prop := componentsExtractsRow.holds Try.pinned (OpenSpec.ofChange componentsExtractsWrong)

/- THE SECOND FORM. 'bulk': how many values and letters a reading holds, each counted each time it is reached (what is shared counts as often as it is met; a slice's spare places count too). A statement '..UptoSaid' is the law's where the arguments, and the package variables that the reading takes, are together of bulk at most 1048576: NARROWER than '..Said'. Prove '..Said' where nothing that the law and all that it calls make is longer than what came in: it says more and counts as full. Else prove '..UptoSaid'. A law counts once. -/
mutual
def uptoBulk {H : Type} : DataW H → Nat
  | .lit (.string bytes) => bytes.length + 1
  | .lit _ => 1
  | .nil => 1
  | .ptr d => uptoBulk d + 1
  | .slice elems spare => uptoBulkAll elems + uptoBulkAll spare + 1
  | .agg parts => uptoBulkAll parts + 1
  | .iface _ d => uptoBulk d + 1
  | .map entries => uptoBulkEntries entries + 1
  | .held _ => 1
def uptoBulkAll {H : Type} : List (DataW H) → Nat
  | [] => 0
  | d :: r => uptoBulk d + uptoBulkAll r
def uptoBulkEntries {H : Type} : List (Lit × DataW H) → Nat
  | [] => 0
  | x :: r => uptoBulkEntry x + uptoBulkEntries r
def uptoBulkEntry {H : Type} : Lit × DataW H → Nat
  | (.string bytes, d) => bytes.length + uptoBulk d + 1
  | (_, d) => uptoBulk d + 1
 end
def uptoSmall : (H : Type) → List (DataW H) → Bool := fun _ ds => decide (uptoBulkAll ds ≤ 1048576)
def OpenSpec.upto (s : _root_.Go.ChangeSpec) : _root_.Go.OpenSpec := { _root_.Go.OpenSpec.ofChange s with cond := some uptoSmall }

/-- 'barscanlaw38.ComponentsLabels', WHERE WHAT IT READS IS OF BULK AT MOST 1048576: true; the input reads as it did. -/
def componentsLabelsUptoRow : OpenClaim := { program := "ytnnmebpahickhaa", sum := "3d0ce50830bd9be2abf4edb15feab8b1312daf28fc1a1960abb141a5b77a7cd5", func := "barscan/barscanlaw38.ComponentsLabels", spec := "componentsLabels", unfollowed := true, recurses := true, apart := false, narrowed := true }
def ComponentsLabelsUptoSaid : Prop := componentsLabelsUptoRow.holds Try.pinned (OpenSpec.upto componentsLabelsSpec)

/-- 'barscanlaw38.ComponentsCleans', WHERE WHAT IT READS IS OF BULK AT MOST 1048576: true; the input reads as it did. -/
def componentsCleansUptoRow : OpenClaim := { program := "ytnnmebpahickhaa", sum := "3d0ce50830bd9be2abf4edb15feab8b1312daf28fc1a1960abb141a5b77a7cd5", func := "barscan/barscanlaw38.ComponentsCleans", spec := "componentsCleans", unfollowed := true, recurses := true, apart := false, narrowed := true }
def ComponentsCleansUptoSaid : Prop := componentsCleansUptoRow.holds Try.pinned (OpenSpec.upto componentsCleansSpec)

/-- 'barscanlaw38.ComponentsEuler', WHERE WHAT IT READS IS OF BULK AT MOST 1048576: true; the input reads as it did. -/
def componentsEulerUptoRow : OpenClaim := { program := "ytnnmebpahickhaa", sum := "3d0ce50830bd9be2abf4edb15feab8b1312daf28fc1a1960abb141a5b77a7cd5", func := "barscan/barscanlaw38.ComponentsEuler", spec := "componentsEuler", unfollowed := true, recurses := true, apart := false, narrowed := true }
def ComponentsEulerUptoSaid : Prop := componentsEulerUptoRow.holds Try.pinned (OpenSpec.upto componentsEulerSpec)

/-- 'barscanlaw38.ComponentsLimits', WHERE WHAT IT READS IS OF BULK AT MOST 1048576: true; the input reads as it did. -/
def componentsLimitsUptoRow : OpenClaim := { program := "ytnnmebpahickhaa", sum := "3d0ce50830bd9be2abf4edb15feab8b1312daf28fc1a1960abb141a5b77a7cd5", func := "barscan/barscanlaw38.ComponentsLimits", spec := "componentsLimits", unfollowed := true, recurses := true, apart := false, narrowed := true }
def ComponentsLimitsUptoSaid : Prop := componentsLimitsUptoRow.holds Try.pinned (OpenSpec.upto componentsLimitsSpec)

/-- 'barscanlaw38.ComponentsParts', WHERE WHAT IT READS IS OF BULK AT MOST 1048576: true; the input reads as it did. -/
def componentsPartsUptoRow : OpenClaim := { program := "ytnnmebpahickhaa", sum := "3d0ce50830bd9be2abf4edb15feab8b1312daf28fc1a1960abb141a5b77a7cd5", func := "barscan/barscanlaw38.ComponentsParts", spec := "componentsParts", unfollowed := true, recurses := true, apart := false, narrowed := true }
def ComponentsPartsUptoSaid : Prop := componentsPartsUptoRow.holds Try.pinned (OpenSpec.upto componentsPartsSpec)

/-- 'barscanlaw38.ComponentsLocal', WHERE WHAT IT READS IS OF BULK AT MOST 1048576: true; the input reads as it did. -/
def componentsLocalUptoRow : OpenClaim := { program := "ytnnmebpahickhaa", sum := "3d0ce50830bd9be2abf4edb15feab8b1312daf28fc1a1960abb141a5b77a7cd5", func := "barscan/barscanlaw38.ComponentsLocal", spec := "componentsLocal", unfollowed := true, recurses := true, apart := false, narrowed := true }
def ComponentsLocalUptoSaid : Prop := componentsLocalUptoRow.holds Try.pinned (OpenSpec.upto componentsLocalSpec)

/-- 'barscanlaw38.ComponentsIdempotent', WHERE WHAT IT READS IS OF BULK AT MOST 1048576: true; the input reads as it did. -/
def componentsIdempotentUptoRow : OpenClaim := { program := "ytnnmebpahickhaa", sum := "3d0ce50830bd9be2abf4edb15feab8b1312daf28fc1a1960abb141a5b77a7cd5", func := "barscan/barscanlaw38.ComponentsIdempotent", spec := "componentsIdempotent", unfollowed := true, recurses := true, apart := false, narrowed := true }
def ComponentsIdempotentUptoSaid : Prop := componentsIdempotentUptoRow.holds Try.pinned (OpenSpec.upto componentsIdempotentSpec)

/-- 'barscanlaw38.ComponentsSymmetric', WHERE WHAT IT READS IS OF BULK AT MOST 1048576: true; the input reads as it did. -/
def componentsSymmetricUptoRow : OpenClaim := { program := "ytnnmebpahickhaa", sum := "3d0ce50830bd9be2abf4edb15feab8b1312daf28fc1a1960abb141a5b77a7cd5", func := "barscan/barscanlaw38.ComponentsSymmetric", spec := "componentsSymmetric", unfollowed := true, recurses := true, apart := false, narrowed := true }
def ComponentsSymmetricUptoSaid : Prop := componentsSymmetricUptoRow.holds Try.pinned (OpenSpec.upto componentsSymmetricSpec)

/-- 'barscanlaw38.ComponentsExtracts', WHERE WHAT IT READS IS OF BULK AT MOST 1048576: true; the input reads as it did. -/
def componentsExtractsUptoRow : OpenClaim := { program := "ytnnmebpahickhaa", sum := "3d0ce50830bd9be2abf4edb15feab8b1312daf28fc1a1960abb141a5b77a7cd5", func := "barscan/barscanlaw38.ComponentsExtracts", spec := "componentsExtracts", unfollowed := true, recurses := true, apart := false, narrowed := true }
def ComponentsExtractsUptoSaid : Prop := componentsExtractsUptoRow.holds Try.pinned (OpenSpec.upto componentsExtractsSpec)

end Rows
end Go.Proofs.Ytnnmebpahickhaa
