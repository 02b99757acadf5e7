/-
  NARROWER THAN 'FOR EVERY INPUT', by the rows' own cells (each row's printed sentence says how): PngWrites: laid · PngReads: laid.
  DERIVED. THE GIVEN ROWS OF THIS SEAT. 2 by the template 'for every input the law returns true; each argument reads behind the call as it read before'; 0 by the template 'total and deterministic' (their statements: YtajklleiifhipaaGreatDoorTotals.lean).
  GIVEN WITH THE SEED: the statements are not yours to turn. If you find one false, say at which input.
  Laid BY PROGRAM, IN A SANDBOX (cutbox-rows.mjs): the forced cells as the released guide's own fill.sh prints them over the translation 2dd4a5fe2100e9f4… (all of the seat's roots in one cut). By AI agents, Wed Nov 11 2026. No macro, syntax, notation, axiom, sorry.
-/
import Derived.Test.YtajklleiifhipaaGreatDoorChecked
import GoSem.Claim
import GoSem.ClaimJoined
import GoSem.ClaimMapViews
import Derived.JoinedTies
import Derived.KernelRfl
namespace Go.Proofs.YtajklleiifhipaaGreatDoor
/- THE CELL 'sum', in the pinned program and in every row, IS THE sha256 OF THE DUMP (.gsa) THAT YtajklleiifhipaaGreatDoorProg.lean LOADS. Nothing in Lean hashes anything: it is a label: what it is worth is what the hold of that sum in a sandbox is worth. -/
noncomputable def Tryz.pinned : Pinned := { name := "ytajklleiifhipaagreatdoor", sum := "2dd4a5fe2100e9f42d2313f1fc38e388ab9c67d6c711ca2599039494f9a74a10", checked := Tryz.checked }
namespace Rows
def none {H : Type} : Left H := { results := [], args := [] }

/- WHAT THE LISTED PACKAGE-LEVEL VARIABLES READ AS WHEN THE CALL BEGINS. Each datum BY PROGRAM (the guide's laid-datum.mjs) off the statement by which the dump's own 'gosem.cut.vars' lays the variable. In a bare row this is a premise. The card (YtajklleiifhipaaGreatDoorCards.lean) ties it to the program's text. -/
def laid_barscan_deflate_order {H : Type} : DataW H := .agg [.lit (.int .i64 16), .lit (.int .i64 17), .lit (.int .i64 18), .lit (.int .i64 0), .lit (.int .i64 8), .lit (.int .i64 7), .lit (.int .i64 9), .lit (.int .i64 6), .lit (.int .i64 10), .lit (.int .i64 5), .lit (.int .i64 11), .lit (.int .i64 4), .lit (.int .i64 12), .lit (.int .i64 3), .lit (.int .i64 13), .lit (.int .i64 2), .lit (.int .i64 14), .lit (.int .i64 1), .lit (.int .i64 15)]

/-- 'barscanlaw35.PngWrites': WHATEVER THE INPUT: true; the input reads as it did. -/
def pngWritesSpec : ChangeSpec := { name := "pngWrites", fn := fun _ => fun
  | [d] => { results := [.lit (.bool true)], args := [d] }
  | _ => none }
def pngWritesRow : OpenClaim := { program := "ytajklleiifhipaagreatdoor", sum := "2dd4a5fe2100e9f42d2313f1fc38e388ab9c67d6c711ca2599039494f9a74a10", func := "barscan/barscanlaw35.PngWrites", spec := "pngWrites", unfollowed := true, recurses := true, named := ["barscan/deflate.order"], apart := false, laid := [("barscan/deflate.order", laid_barscan_deflate_order)] }
def PngWritesSaid : Prop := pngWritesRow.holds Tryz.pinned (OpenSpec.ofChange pngWritesSpec)

/-- ITS FALSE NEIGHBOUR: 'it returns false'. Refute it at one input. -/
def pngWritesWrong : ChangeSpec := { name := "pngWrites", fn := fun _ => fun
  | [d] => { results := [.lit (.bool false)], args := [d] }
  | _ => none }
def PngWritesWrongFalsely : Prop := pngWritesRow.holds Tryz.pinned (OpenSpec.ofChange pngWritesWrong)

/-- 'barscanlaw35.PngReads': WHATEVER THE INPUT: true; the input reads as it did. -/
def pngReadsSpec : ChangeSpec := { name := "pngReads", fn := fun _ => fun
  | [d] => { results := [.lit (.bool true)], args := [d] }
  | _ => none }
def pngReadsRow : OpenClaim := { program := "ytajklleiifhipaagreatdoor", sum := "2dd4a5fe2100e9f42d2313f1fc38e388ab9c67d6c711ca2599039494f9a74a10", func := "barscan/barscanlaw35.PngReads", spec := "pngReads", unfollowed := true, recurses := true, named := ["barscan/deflate.order"], apart := false, laid := [("barscan/deflate.order", laid_barscan_deflate_order)] }
def PngReadsSaid : Prop := pngReadsRow.holds Tryz.pinned (OpenSpec.ofChange pngReadsSpec)

/-- ITS FALSE NEIGHBOUR: 'it returns false'. Refute it at one input. -/
def pngReadsWrong : ChangeSpec := { name := "pngReads", fn := fun _ => fun
  | [d] => { results := [.lit (.bool false)], args := [d] }
  | _ => none }
def PngReadsWrongFalsely : Prop := pngReadsRow.holds Tryz.pinned (OpenSpec.ofChange pngReadsWrong)

/- THE SECOND FORM. 'bulk': how many values and letters a reading holds, each counted each time it is reached (what is shared counts as often as it is met; a slice's spare places count too). A statement '..UptoSaid' is the law's where the arguments, and the package variables that the reading takes, are together of bulk at most 1048576: NARROWER than '..Said'. Prove '..Said' where nothing that the law and all that it calls make is longer than what came in: it says more and counts as full. Else prove '..UptoSaid'. A law counts once. -/
mutual
def uptoBulk {H : Type} : DataW H → Nat
  | .lit (.string bytes) => bytes.length + 1
  | .lit _ => 1
  | .nil => 1
  | .ptr d => uptoBulk d + 1
  | .slice elems spare => uptoBulkAll elems + uptoBulkAll spare + 1
  | .agg parts => uptoBulkAll parts + 1
  | .iface _ d => uptoBulk d + 1
  | .map entries => uptoBulkEntries entries + 1
  | .held _ => 1
def uptoBulkAll {H : Type} : List (DataW H) → Nat
  | [] => 0
  | d :: r => uptoBulk d + uptoBulkAll r
def uptoBulkEntries {H : Type} : List (Lit × DataW H) → Nat
  | [] => 0
  | x :: r => uptoBulkEntry x + uptoBulkEntries r
def uptoBulkEntry {H : Type} : Lit × DataW H → Nat
  | (.string bytes, d) => bytes.length + uptoBulk d + 1
  | (_, d) => uptoBulk d + 1
 end
def uptoSmall : (H : Type) → List (DataW H) → Bool := fun _ ds => decide (uptoBulkAll ds ≤ 1048576)
def OpenSpec.upto (s : _root_.Go.ChangeSpec) : _root_.Go.OpenSpec := { _root_.Go.OpenSpec.ofChange s with cond := some uptoSmall }

/-- 'barscanlaw35.PngWrites', WHERE WHAT IT READS IS OF BULK AT MOST 1048576: true; the input reads as it did. -/
def pngWritesUptoRow : OpenClaim := { program := "ytajklleiifhipaagreatdoor", sum := "2dd4a5fe2100e9f42d2313f1fc38e388ab9c67d6c711ca2599039494f9a74a10", func := "barscan/barscanlaw35.PngWrites", spec := "pngWrites", unfollowed := true, recurses := true, named := ["barscan/deflate.order"], apart := false, laid := [("barscan/deflate.order", laid_barscan_deflate_order)], narrowed := true }
def PngWritesUptoSaid : Prop := pngWritesUptoRow.holds Tryz.pinned (OpenSpec.upto pngWritesSpec)

/-- 'barscanlaw35.PngReads', WHERE WHAT IT READS IS OF BULK AT MOST 1048576: true; the input reads as it did. -/
def pngReadsUptoRow : OpenClaim := { program := "ytajklleiifhipaagreatdoor", sum := "2dd4a5fe2100e9f42d2313f1fc38e388ab9c67d6c711ca2599039494f9a74a10", func := "barscan/barscanlaw35.PngReads", spec := "pngReads", unfollowed := true, recurses := true, named := ["barscan/deflate.order"], apart := false, laid := [("barscan/deflate.order", laid_barscan_deflate_order)], narrowed := true }
def PngReadsUptoSaid : Prop := pngReadsUptoRow.holds Tryz.pinned (OpenSpec.upto pngReadsSpec)

end Rows
end Go.Proofs.YtajklleiifhipaaGreatDoor
