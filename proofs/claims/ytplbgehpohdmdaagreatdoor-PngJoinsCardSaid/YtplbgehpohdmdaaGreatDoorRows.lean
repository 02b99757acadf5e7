/-
  NARROWER THAN 'FOR EVERY INPUT', by the rows' own cells (each row's printed sentence says how): PngChunks: laid · PngJoins: laid · PngFilters: laid · PngWrites: laid · PngReads: laid · PngRoundTrip: laid · PngRestores: laid · PngDetects: laid · PngIgnores: laid.
  DERIVED. THE GIVEN ROWS OF THIS SEAT. 9 by the template 'for every input the law returns true; each argument reads behind the call as it read before'; 0 by the template 'total and deterministic' (their statements: YtplbgehpohdmdaaGreatDoorTotals.lean).
  GIVEN WITH THE SEED: the statements are not yours to turn. If you find one false, say at which input.
  Laid BY PROGRAM, IN A SANDBOX (cutbox-rows.mjs): the forced cells as the released guide's own fill.sh prints them over the translation 9fbdb62ffd0c2852… (all of the seat's roots in one cut). By AI agents, Wed Nov 11 2026. No macro, syntax, notation, axiom, sorry.
-/
import Derived.Test.YtplbgehpohdmdaaGreatDoorChecked
import GoSem.Claim
import GoSem.ClaimJoined
import GoSem.ClaimMapViews
import Derived.JoinedTies
import Derived.KernelRfl
namespace Go.Proofs.YtplbgehpohdmdaaGreatDoor
/- THE CELL 'sum', in the pinned program and in every row, IS THE sha256 OF THE DUMP (.gsa) THAT YtplbgehpohdmdaaGreatDoorProg.lean LOADS. Nothing in Lean hashes anything: it is a label: what it is worth is what the hold of that sum in a sandbox is worth. -/
noncomputable def Tryz.pinned : Pinned := { name := "ytplbgehpohdmdaagreatdoor", sum := "9fbdb62ffd0c28526f16094632386104d26af692064b974c93097f3694e804c6", checked := Tryz.checked }
namespace Rows
def none {H : Type} : Left H := { results := [], args := [] }

/- WHAT THE LISTED PACKAGE-LEVEL VARIABLES READ AS WHEN THE CALL BEGINS. Each datum BY PROGRAM (the guide's laid-datum.mjs) off the statement by which the dump's own 'gosem.cut.vars' lays the variable. In a bare row this is a premise. The card (YtplbgehpohdmdaaGreatDoorCards.lean) ties it to the program's text. -/
def laid_barscan_deflate_order {H : Type} : DataW H := .agg [.lit (.int .i64 16), .lit (.int .i64 17), .lit (.int .i64 18), .lit (.int .i64 0), .lit (.int .i64 8), .lit (.int .i64 7), .lit (.int .i64 9), .lit (.int .i64 6), .lit (.int .i64 10), .lit (.int .i64 5), .lit (.int .i64 11), .lit (.int .i64 4), .lit (.int .i64 12), .lit (.int .i64 3), .lit (.int .i64 13), .lit (.int .i64 2), .lit (.int .i64 14), .lit (.int .i64 1), .lit (.int .i64 15)]

/-- 'barscanlaw35.PngChunks': WHATEVER THE INPUT: true; the input reads as it did. -/
def pngChunksSpec : ChangeSpec := { name := "pngChunks", fn := fun _ => fun
  | [d] => { results := [.lit (.bool true)], args := [d] }
  | _ => none }
def pngChunksRow : OpenClaim := { program := "ytplbgehpohdmdaagreatdoor", sum := "9fbdb62ffd0c28526f16094632386104d26af692064b974c93097f3694e804c6", func := "barscan/barscanlaw35.PngChunks", spec := "pngChunks", unfollowed := true, recurses := true, named := ["barscan/deflate.order"], apart := false, laid := [("barscan/deflate.order", laid_barscan_deflate_order)] }
def PngChunksSaid : Prop := pngChunksRow.holds Tryz.pinned (OpenSpec.ofChange pngChunksSpec)

/-- ITS FALSE NEIGHBOUR: 'it returns false'. Refute it at one input. -/
def pngChunksWrong : ChangeSpec := { name := "pngChunks", fn := fun _ => fun
  | [d] => { results := [.lit (.bool false)], args := [d] }
  | _ => none }
def PngChunksWrongFalsely : Prop := pngChunksRow.holds Tryz.pinned (OpenSpec.ofChange pngChunksWrong)

/-- 'barscanlaw35.PngJoins': WHATEVER THE INPUT: true; the input reads as it did. -/
def pngJoinsSpec : ChangeSpec := { name := "pngJoins", fn := fun _ => fun
  | [d] => { results := [.lit (.bool true)], args := [d] }
  | _ => none }
def pngJoinsRow : OpenClaim := { program := "ytplbgehpohdmdaagreatdoor", sum := "9fbdb62ffd0c28526f16094632386104d26af692064b974c93097f3694e804c6", func := "barscan/barscanlaw35.PngJoins", spec := "pngJoins", unfollowed := true, recurses := true, named := ["barscan/deflate.order"], apart := false, laid := [("barscan/deflate.order", laid_barscan_deflate_order)] }
def PngJoinsSaid : Prop := pngJoinsRow.holds Tryz.pinned (OpenSpec.ofChange pngJoinsSpec)

/-- ITS FALSE NEIGHBOUR: 'it returns false'. Refute it at one input. -/
def pngJoinsWrong : ChangeSpec := { name := "pngJoins", fn := fun _ => fun
  | [d] => { results := [.lit (.bool false)], args := [d] }
  | _ => none }
def PngJoinsWrongFalsely : Prop := pngJoinsRow.holds Tryz.pinned (OpenSpec.ofChange pngJoinsWrong)

/-- 'barscanlaw35.PngFilters': WHATEVER THE INPUT: true; the input reads as it did. -/
def pngFiltersSpec : ChangeSpec := { name := "pngFilters", fn := fun _ => fun
  | [d1, d2, d3] => { results := [.lit (.bool true)], args := [d1, d2, d3] }
  | _ => none }
def pngFiltersRow : OpenClaim := { program := "ytplbgehpohdmdaagreatdoor", sum := "9fbdb62ffd0c28526f16094632386104d26af692064b974c93097f3694e804c6", func := "barscan/barscanlaw35.PngFilters", spec := "pngFilters", unfollowed := true, recurses := true, named := ["barscan/deflate.order"], apart := false, laid := [("barscan/deflate.order", laid_barscan_deflate_order)] }
def PngFiltersSaid : Prop := pngFiltersRow.holds Tryz.pinned (OpenSpec.ofChange pngFiltersSpec)

/-- ITS FALSE NEIGHBOUR: 'it returns false'. Refute it at one input. -/
def pngFiltersWrong : ChangeSpec := { name := "pngFilters", fn := fun _ => fun
  | [d1, d2, d3] => { results := [.lit (.bool false)], args := [d1, d2, d3] }
  | _ => none }
def PngFiltersWrongFalsely : Prop := pngFiltersRow.holds Tryz.pinned (OpenSpec.ofChange pngFiltersWrong)

/-- 'barscanlaw35.PngWrites': WHATEVER THE INPUT: true; the input reads as it did. -/
def pngWritesSpec : ChangeSpec := { name := "pngWrites", fn := fun _ => fun
  | [d] => { results := [.lit (.bool true)], args := [d] }
  | _ => none }
def pngWritesRow : OpenClaim := { program := "ytplbgehpohdmdaagreatdoor", sum := "9fbdb62ffd0c28526f16094632386104d26af692064b974c93097f3694e804c6", func := "barscan/barscanlaw35.PngWrites", spec := "pngWrites", unfollowed := true, recurses := true, named := ["barscan/deflate.order"], apart := false, laid := [("barscan/deflate.order", laid_barscan_deflate_order)] }
def PngWritesSaid : Prop := pngWritesRow.holds Tryz.pinned (OpenSpec.ofChange pngWritesSpec)

/-- ITS FALSE NEIGHBOUR: 'it returns false'. Refute it at one input. -/
def pngWritesWrong : ChangeSpec := { name := "pngWrites", fn := fun _ => fun
  | [d] => { results := [.lit (.bool false)], args := [d] }
  | _ => none }
def PngWritesWrongFalsely : Prop := pngWritesRow.holds Tryz.pinned (OpenSpec.ofChange pngWritesWrong)

/-- 'barscanlaw35.PngReads': WHATEVER THE INPUT: true; the input reads as it did. -/
def pngReadsSpec : ChangeSpec := { name := "pngReads", fn := fun _ => fun
  | [d] => { results := [.lit (.bool true)], args := [d] }
  | _ => none }
def pngReadsRow : OpenClaim := { program := "ytplbgehpohdmdaagreatdoor", sum := "9fbdb62ffd0c28526f16094632386104d26af692064b974c93097f3694e804c6", func := "barscan/barscanlaw35.PngReads", spec := "pngReads", unfollowed := true, recurses := true, named := ["barscan/deflate.order"], apart := false, laid := [("barscan/deflate.order", laid_barscan_deflate_order)] }
def PngReadsSaid : Prop := pngReadsRow.holds Tryz.pinned (OpenSpec.ofChange pngReadsSpec)

/-- ITS FALSE NEIGHBOUR: 'it returns false'. Refute it at one input. -/
def pngReadsWrong : ChangeSpec := { name := "pngReads", fn := fun _ => fun
  | [d] => { results := [.lit (.bool false)], args := [d] }
  | _ => none }
def PngReadsWrongFalsely : Prop := pngReadsRow.holds Tryz.pinned (OpenSpec.ofChange pngReadsWrong)

/-- 'barscanlaw35.PngRoundTrip': WHATEVER THE INPUT: true; the input reads as it did. -/
def pngRoundTripSpec : ChangeSpec := { name := "pngRoundTrip", fn := fun _ => fun
  | [d] => { results := [.lit (.bool true)], args := [d] }
  | _ => none }
def pngRoundTripRow : OpenClaim := { program := "ytplbgehpohdmdaagreatdoor", sum := "9fbdb62ffd0c28526f16094632386104d26af692064b974c93097f3694e804c6", func := "barscan/barscanlaw35.PngRoundTrip", spec := "pngRoundTrip", unfollowed := true, recurses := true, named := ["barscan/deflate.order"], apart := false, laid := [("barscan/deflate.order", laid_barscan_deflate_order)] }
def PngRoundTripSaid : Prop := pngRoundTripRow.holds Tryz.pinned (OpenSpec.ofChange pngRoundTripSpec)

/-- ITS FALSE NEIGHBOUR: 'it returns false'. Refute it at one input. -/
def pngRoundTripWrong : ChangeSpec := { name := "pngRoundTrip", fn := fun _ => fun
  | [d] => { results := [.lit (.bool false)], args := [d] }
  | _ => none }
def PngRoundTripWrongFalsely : Prop := pngRoundTripRow.holds Tryz.pinned (OpenSpec.ofChange pngRoundTripWrong)

/-- 'barscanlaw35.PngRestores': WHATEVER THE INPUT: true; the input reads as it did. -/
def pngRestoresSpec : ChangeSpec := { name := "pngRestores", fn := fun _ => fun
  | [d1, d2] => { results := [.lit (.bool true)], args := [d1, d2] }
  | _ => none }
def pngRestoresRow : OpenClaim := { program := "ytplbgehpohdmdaagreatdoor", sum := "9fbdb62ffd0c28526f16094632386104d26af692064b974c93097f3694e804c6", func := "barscan/barscanlaw35.PngRestores", spec := "pngRestores", unfollowed := true, recurses := true, named := ["barscan/deflate.order"], apart := false, laid := [("barscan/deflate.order", laid_barscan_deflate_order)] }
def PngRestoresSaid : Prop := pngRestoresRow.holds Tryz.pinned (OpenSpec.ofChange pngRestoresSpec)

/-- ITS FALSE NEIGHBOUR: 'it returns false'. Refute it at one input. -/
def pngRestoresWrong : ChangeSpec := { name := "pngRestores", fn := fun _ => fun
  | [d1, d2] => { results := [.lit (.bool false)], args := [d1, d2] }
  | _ => none }
def PngRestoresWrongFalsely : Prop := pngRestoresRow.holds Tryz.pinned (OpenSpec.ofChange pngRestoresWrong)

/-- 'barscanlaw35.PngDetects': WHATEVER THE INPUT: true; the input reads as it did. -/
def pngDetectsSpec : ChangeSpec := { name := "pngDetects", fn := fun _ => fun
  | [d1, d2, d3, d4] => { results := [.lit (.bool true)], args := [d1, d2, d3, d4] }
  | _ => none }
def pngDetectsRow : OpenClaim := { program := "ytplbgehpohdmdaagreatdoor", sum := "9fbdb62ffd0c28526f16094632386104d26af692064b974c93097f3694e804c6", func := "barscan/barscanlaw35.PngDetects", spec := "pngDetects", unfollowed := true, recurses := true, named := ["barscan/deflate.order"], apart := false, laid := [("barscan/deflate.order", laid_barscan_deflate_order)] }
def PngDetectsSaid : Prop := pngDetectsRow.holds Tryz.pinned (OpenSpec.ofChange pngDetectsSpec)

/-- ITS FALSE NEIGHBOUR: 'it returns false'. Refute it at one input. -/
def pngDetectsWrong : ChangeSpec := { name := "pngDetects", fn := fun _ => fun
  | [d1, d2, d3, d4] => { results := [.lit (.bool false)], args := [d1, d2, d3, d4] }
  | _ => none }
def PngDetectsWrongFalsely : Prop := pngDetectsRow.holds Tryz.pinned (OpenSpec.ofChange pngDetectsWrong)

/-- 'barscanlaw35.PngIgnores': WHATEVER THE INPUT: true; the input reads as it did. -/
def pngIgnoresSpec : ChangeSpec := { name := "pngIgnores", fn := fun _ => fun
  | [d1, d2, d3] => { results := [.lit (.bool true)], args := [d1, d2, d3] }
  | _ => none }
def pngIgnoresRow : OpenClaim := { program := "ytplbgehpohdmdaagreatdoor", sum := "9fbdb62ffd0c28526f16094632386104d26af692064b974c93097f3694e804c6", func := "barscan/barscanlaw35.PngIgnores", spec := "pngIgnores", unfollowed := true, recurses := true, named := ["barscan/deflate.order"], apart := false, laid := [("barscan/deflate.order", laid_barscan_deflate_order)] }
def PngIgnoresSaid : Prop := pngIgnoresRow.holds Tryz.pinned (OpenSpec.ofChange pngIgnoresSpec)

/-- ITS FALSE NEIGHBOUR: 'it returns false'. Refute it at one input. -/
def pngIgnoresWrong : ChangeSpec := { name := "pngIgnores", fn := fun _ => fun
  | [d1, d2, d3] => { results := [.lit (.bool false)], args := [d1, d2, d3] }
  | _ => none }
def PngIgnoresWrongFalsely : Prop := pngIgnoresRow.holds Tryz.pinned (OpenSpec.ofChange pngIgnoresWrong)

/- THE SECOND FORM. 'bulk': how many values and letters a reading holds, each counted each time it is reached (what is shared counts as often as it is met; a slice's spare places count too). A statement '..UptoSaid' is the law's where the arguments, and the package variables that the reading takes, are together of bulk at most 1048576: NARROWER than '..Said'. Prove '..Said' where nothing that the law and all that it calls make is longer than what came in: it says more and counts as full. Else prove '..UptoSaid'. A law counts once. -/
mutual
def uptoBulk {H : Type} : DataW H → Nat
  | .lit (.string bytes) => bytes.length + 1
  | .lit _ => 1
  | .nil => 1
  | .ptr d => uptoBulk d + 1
  | .slice elems spare => uptoBulkAll elems + uptoBulkAll spare + 1
  | .agg parts => uptoBulkAll parts + 1
  | .iface _ d => uptoBulk d + 1
  | .map entries => uptoBulkEntries entries + 1
  | .held _ => 1
def uptoBulkAll {H : Type} : List (DataW H) → Nat
  | [] => 0
  | d :: r => uptoBulk d + uptoBulkAll r
def uptoBulkEntries {H : Type} : List (Lit × DataW H) → Nat
  | [] => 0
  | x :: r => uptoBulkEntry x + uptoBulkEntries r
def uptoBulkEntry {H : Type} : Lit × DataW H → Nat
  | (.string bytes, d) => bytes.length + uptoBulk d + 1
  | (_, d) => uptoBulk d + 1
 end
def uptoSmall : (H : Type) → List (DataW H) → Bool := fun _ ds => decide (uptoBulkAll ds ≤ 1048576)
def OpenSpec.upto (s : _root_.Go.ChangeSpec) : _root_.Go.OpenSpec := { _root_.Go.OpenSpec.ofChange s with cond := some uptoSmall }

/-- 'barscanlaw35.PngChunks', WHERE WHAT IT READS IS OF BULK AT MOST 1048576: true; the input reads as it did. -/
def pngChunksUptoRow : OpenClaim := { program := "ytplbgehpohdmdaagreatdoor", sum := "9fbdb62ffd0c28526f16094632386104d26af692064b974c93097f3694e804c6", func := "barscan/barscanlaw35.PngChunks", spec := "pngChunks", unfollowed := true, recurses := true, named := ["barscan/deflate.order"], apart := false, laid := [("barscan/deflate.order", laid_barscan_deflate_order)], narrowed := true }
def PngChunksUptoSaid : Prop := pngChunksUptoRow.holds Tryz.pinned (OpenSpec.upto pngChunksSpec)

/-- 'barscanlaw35.PngJoins', WHERE WHAT IT READS IS OF BULK AT MOST 1048576: true; the input reads as it did. -/
def pngJoinsUptoRow : OpenClaim := { program := "ytplbgehpohdmdaagreatdoor", sum := "9fbdb62ffd0c28526f16094632386104d26af692064b974c93097f3694e804c6", func := "barscan/barscanlaw35.PngJoins", spec := "pngJoins", unfollowed := true, recurses := true, named := ["barscan/deflate.order"], apart := false, laid := [("barscan/deflate.order", laid_barscan_deflate_order)], narrowed := true }
def PngJoinsUptoSaid : Prop := pngJoinsUptoRow.holds Tryz.pinned (OpenSpec.upto pngJoinsSpec)

/-- 'barscanlaw35.PngFilters', WHERE WHAT IT READS IS OF BULK AT MOST 1048576: true; the input reads as it did. -/
def pngFiltersUptoRow : OpenClaim := { program := "ytplbgehpohdmdaagreatdoor", sum := "9fbdb62ffd0c28526f16094632386104d26af692064b974c93097f3694e804c6", func := "barscan/barscanlaw35.PngFilters", spec := "pngFilters", unfollowed := true, recurses := true, named := ["barscan/deflate.order"], apart := false, laid := [("barscan/deflate.order", laid_barscan_deflate_order)], narrowed := true }
def PngFiltersUptoSaid : Prop := pngFiltersUptoRow.holds Tryz.pinned (OpenSpec.upto pngFiltersSpec)

/-- 'barscanlaw35.PngWrites', WHERE WHAT IT READS IS OF BULK AT MOST 1048576: true; the input reads as it did. -/
def pngWritesUptoRow : OpenClaim := { program := "ytplbgehpohdmdaagreatdoor", sum := "9fbdb62ffd0c28526f16094632386104d26af692064b974c93097f3694e804c6", func := "barscan/barscanlaw35.PngWrites", spec := "pngWrites", unfollowed := true, recurses := true, named := ["barscan/deflate.order"], apart := false, laid := [("barscan/deflate.order", laid_barscan_deflate_order)], narrowed := true }
def PngWritesUptoSaid : Prop := pngWritesUptoRow.holds Tryz.pinned (OpenSpec.upto pngWritesSpec)

/-- 'barscanlaw35.PngReads', WHERE WHAT IT READS IS OF BULK AT MOST 1048576: true; the input reads as it did. -/
def pngReadsUptoRow : OpenClaim := { program := "ytplbgehpohdmdaagreatdoor", sum := "9fbdb62ffd0c28526f16094632386104d26af692064b974c93097f3694e804c6", func := "barscan/barscanlaw35.PngReads", spec := "pngReads", unfollowed := true, recurses := true, named := ["barscan/deflate.order"], apart := false, laid := [("barscan/deflate.order", laid_barscan_deflate_order)], narrowed := true }
def PngReadsUptoSaid : Prop := pngReadsUptoRow.holds Tryz.pinned (OpenSpec.upto pngReadsSpec)

/-- 'barscanlaw35.PngRoundTrip', WHERE WHAT IT READS IS OF BULK AT MOST 1048576: true; the input reads as it did. -/
def pngRoundTripUptoRow : OpenClaim := { program := "ytplbgehpohdmdaagreatdoor", sum := "9fbdb62ffd0c28526f16094632386104d26af692064b974c93097f3694e804c6", func := "barscan/barscanlaw35.PngRoundTrip", spec := "pngRoundTrip", unfollowed := true, recurses := true, named := ["barscan/deflate.order"], apart := false, laid := [("barscan/deflate.order", laid_barscan_deflate_order)], narrowed := true }
def PngRoundTripUptoSaid : Prop := pngRoundTripUptoRow.holds Tryz.pinned (OpenSpec.upto pngRoundTripSpec)

/-- 'barscanlaw35.PngRestores', WHERE WHAT IT READS IS OF BULK AT MOST 1048576: true; the input reads as it did. -/
def pngRestoresUptoRow : OpenClaim := { program := "ytplbgehpohdmdaagreatdoor", sum := "9fbdb62ffd0c28526f16094632386104d26af692064b974c93097f3694e804c6", func := "barscan/barscanlaw35.PngRestores", spec := "pngRestores", unfollowed := true, recurses := true, named := ["barscan/deflate.order"], apart := false, laid := [("barscan/deflate.order", laid_barscan_deflate_order)], narrowed := true }
def PngRestoresUptoSaid : Prop := pngRestoresUptoRow.holds Tryz.pinned (OpenSpec.upto pngRestoresSpec)

/-- 'barscanlaw35.PngDetects', WHERE WHAT IT READS IS OF BULK AT MOST 1048576: true; the input reads as it did. -/
def pngDetectsUptoRow : OpenClaim := { program := "ytplbgehpohdmdaagreatdoor", sum := "9fbdb62ffd0c28526f16094632386104d26af692064b974c93097f3694e804c6", func := "barscan/barscanlaw35.PngDetects", spec := "pngDetects", unfollowed := true, recurses := true, named := ["barscan/deflate.order"], apart := false, laid := [("barscan/deflate.order", laid_barscan_deflate_order)], narrowed := true }
def PngDetectsUptoSaid : Prop := pngDetectsUptoRow.holds Tryz.pinned (OpenSpec.upto pngDetectsSpec)

/-- 'barscanlaw35.PngIgnores', WHERE WHAT IT READS IS OF BULK AT MOST 1048576: true; the input reads as it did. -/
def pngIgnoresUptoRow : OpenClaim := { program := "ytplbgehpohdmdaagreatdoor", sum := "9fbdb62ffd0c28526f16094632386104d26af692064b974c93097f3694e804c6", func := "barscan/barscanlaw35.PngIgnores", spec := "pngIgnores", unfollowed := true, recurses := true, named := ["barscan/deflate.order"], apart := false, laid := [("barscan/deflate.order", laid_barscan_deflate_order)], narrowed := true }
def PngIgnoresUptoSaid : Prop := pngIgnoresUptoRow.holds Tryz.pinned (OpenSpec.upto pngIgnoresSpec)

end Rows
end Go.Proofs.YtplbgehpohdmdaaGreatDoor
