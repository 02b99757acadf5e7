/-
  NARROWER THAN 'FOR EVERY INPUT', by the rows' own cells (each row's printed sentence says how): DeflateCompresses: laid · DeflateStores: laid · DeflateTokens: laid · DeflateFactors: laid · DeflateLimits: laid · DeflateRoundTrip: laid · DeflateTruncates: laid.
  DERIVED. THE GIVEN ROWS OF THIS SEAT. 7 by the template 'for every input the law returns true; each argument reads behind the call as it read before'; 0 by the template 'total and deterministic' (their statements: YtcmgbjmcklfkcaaDoorTotals.lean).
  GIVEN WITH THE SEED: the statements are not yours to turn. If you find one false, say at which input.
  Laid BY PROGRAM, IN A SANDBOX (cutbox-rows.mjs): the forced cells as the released guide's own fill.sh prints them over the translation 2f98f372aa9e0cef… (all of the seat's roots in one cut). By AI agents, Wed Nov 11 2026. No macro, syntax, notation, axiom, sorry.
-/
import Derived.Test.YtcmgbjmcklfkcaaDoorChecked
import GoSem.Claim
import GoSem.ClaimJoined
import GoSem.ClaimMapViews
import Derived.JoinedTies
import Derived.KernelRfl
namespace Go.Proofs.YtcmgbjmcklfkcaaDoor
/- THE CELL 'sum', in the pinned program and in every row, IS THE sha256 OF THE DUMP (.gsa) THAT YtcmgbjmcklfkcaaDoorProg.lean LOADS. Nothing in Lean hashes anything: it is a label: what it is worth is what the hold of that sum in a sandbox is worth. -/
noncomputable def Tryd.pinned : Pinned := { name := "ytcmgbjmcklfkcaadoor", sum := "2f98f372aa9e0cef055dd995deca0ef19070731a04a3ab5b468f1cbc961a5328", checked := Tryd.checked }
namespace Rows
def none {H : Type} : Left H := { results := [], args := [] }

/- WHAT THE LISTED PACKAGE-LEVEL VARIABLES READ AS WHEN THE CALL BEGINS. Each datum BY PROGRAM (the guide's laid-datum.mjs) off the statement by which the dump's own 'gosem.cut.vars' lays the variable. In a bare row this is a premise. The card (YtcmgbjmcklfkcaaDoorCards.lean) ties it to the program's text. -/
def laid_barscan_deflate_order {H : Type} : DataW H := .agg [.lit (.int .i64 16), .lit (.int .i64 17), .lit (.int .i64 18), .lit (.int .i64 0), .lit (.int .i64 8), .lit (.int .i64 7), .lit (.int .i64 9), .lit (.int .i64 6), .lit (.int .i64 10), .lit (.int .i64 5), .lit (.int .i64 11), .lit (.int .i64 4), .lit (.int .i64 12), .lit (.int .i64 3), .lit (.int .i64 13), .lit (.int .i64 2), .lit (.int .i64 14), .lit (.int .i64 1), .lit (.int .i64 15)]

/-- 'barscanlaw34.DeflateCompresses': WHATEVER THE INPUT: true; the input reads as it did. -/
def deflateCompressesSpec : ChangeSpec := { name := "deflateCompresses", fn := fun _ => fun
  | [d1, d2] => { results := [.lit (.bool true)], args := [d1, d2] }
  | _ => none }
def deflateCompressesRow : OpenClaim := { program := "ytcmgbjmcklfkcaadoor", sum := "2f98f372aa9e0cef055dd995deca0ef19070731a04a3ab5b468f1cbc961a5328", func := "barscan/barscanlaw34.DeflateCompresses", spec := "deflateCompresses", unfollowed := true, recurses := true, named := ["barscan/deflate.order"], apart := false, laid := [("barscan/deflate.order", laid_barscan_deflate_order)] }
def DeflateCompressesSaid : Prop := deflateCompressesRow.holds Tryd.pinned (OpenSpec.ofChange deflateCompressesSpec)

/-- ITS FALSE NEIGHBOUR: 'it returns false'. Refute it at one input. -/
def deflateCompressesWrong : ChangeSpec := { name := "deflateCompresses", fn := fun _ => fun
  | [d1, d2] => { results := [.lit (.bool false)], args := [d1, d2] }
  | _ => none }
def DeflateCompressesWrongFalsely : Prop := deflateCompressesRow.holds Tryd.pinned (OpenSpec.ofChange deflateCompressesWrong)

/-- 'barscanlaw34.DeflateStores': WHATEVER THE INPUT: true; the input reads as it did. -/
def deflateStoresSpec : ChangeSpec := { name := "deflateStores", fn := fun _ => fun
  | [d] => { results := [.lit (.bool true)], args := [d] }
  | _ => none }
def deflateStoresRow : OpenClaim := { program := "ytcmgbjmcklfkcaadoor", sum := "2f98f372aa9e0cef055dd995deca0ef19070731a04a3ab5b468f1cbc961a5328", func := "barscan/barscanlaw34.DeflateStores", spec := "deflateStores", unfollowed := true, recurses := true, named := ["barscan/deflate.order"], apart := false, laid := [("barscan/deflate.order", laid_barscan_deflate_order)] }
def DeflateStoresSaid : Prop := deflateStoresRow.holds Tryd.pinned (OpenSpec.ofChange deflateStoresSpec)

/-- ITS FALSE NEIGHBOUR: 'it returns false'. Refute it at one input. -/
def deflateStoresWrong : ChangeSpec := { name := "deflateStores", fn := fun _ => fun
  | [d] => { results := [.lit (.bool false)], args := [d] }
  | _ => none }
def DeflateStoresWrongFalsely : Prop := deflateStoresRow.holds Tryd.pinned (OpenSpec.ofChange deflateStoresWrong)

/-- 'barscanlaw34.DeflateTokens': WHATEVER THE INPUT: true; the input reads as it did. -/
def deflateTokensSpec : ChangeSpec := { name := "deflateTokens", fn := fun _ => fun
  | [d1, d2] => { results := [.lit (.bool true)], args := [d1, d2] }
  | _ => none }
def deflateTokensRow : OpenClaim := { program := "ytcmgbjmcklfkcaadoor", sum := "2f98f372aa9e0cef055dd995deca0ef19070731a04a3ab5b468f1cbc961a5328", func := "barscan/barscanlaw34.DeflateTokens", spec := "deflateTokens", unfollowed := true, recurses := true, named := ["barscan/deflate.order"], apart := false, laid := [("barscan/deflate.order", laid_barscan_deflate_order)] }
def DeflateTokensSaid : Prop := deflateTokensRow.holds Tryd.pinned (OpenSpec.ofChange deflateTokensSpec)

/-- ITS FALSE NEIGHBOUR: 'it returns false'. Refute it at one input. -/
def deflateTokensWrong : ChangeSpec := { name := "deflateTokens", fn := fun _ => fun
  | [d1, d2] => { results := [.lit (.bool false)], args := [d1, d2] }
  | _ => none }
def DeflateTokensWrongFalsely : Prop := deflateTokensRow.holds Tryd.pinned (OpenSpec.ofChange deflateTokensWrong)

/-- 'barscanlaw34.DeflateFactors': WHATEVER THE INPUT: true; the input reads as it did. -/
def deflateFactorsSpec : ChangeSpec := { name := "deflateFactors", fn := fun _ => fun
  | [d] => { results := [.lit (.bool true)], args := [d] }
  | _ => none }
def deflateFactorsRow : OpenClaim := { program := "ytcmgbjmcklfkcaadoor", sum := "2f98f372aa9e0cef055dd995deca0ef19070731a04a3ab5b468f1cbc961a5328", func := "barscan/barscanlaw34.DeflateFactors", spec := "deflateFactors", unfollowed := true, recurses := true, named := ["barscan/deflate.order"], apart := false, laid := [("barscan/deflate.order", laid_barscan_deflate_order)] }
def DeflateFactorsSaid : Prop := deflateFactorsRow.holds Tryd.pinned (OpenSpec.ofChange deflateFactorsSpec)

/-- ITS FALSE NEIGHBOUR: 'it returns false'. Refute it at one input. -/
def deflateFactorsWrong : ChangeSpec := { name := "deflateFactors", fn := fun _ => fun
  | [d] => { results := [.lit (.bool false)], args := [d] }
  | _ => none }
def DeflateFactorsWrongFalsely : Prop := deflateFactorsRow.holds Tryd.pinned (OpenSpec.ofChange deflateFactorsWrong)

/-- 'barscanlaw34.DeflateLimits': WHATEVER THE INPUT: true; the input reads as it did. -/
def deflateLimitsSpec : ChangeSpec := { name := "deflateLimits", fn := fun _ => fun
  | [d1, d2, d3] => { results := [.lit (.bool true)], args := [d1, d2, d3] }
  | _ => none }
def deflateLimitsRow : OpenClaim := { program := "ytcmgbjmcklfkcaadoor", sum := "2f98f372aa9e0cef055dd995deca0ef19070731a04a3ab5b468f1cbc961a5328", func := "barscan/barscanlaw34.DeflateLimits", spec := "deflateLimits", unfollowed := true, recurses := true, named := ["barscan/deflate.order"], apart := false, laid := [("barscan/deflate.order", laid_barscan_deflate_order)] }
def DeflateLimitsSaid : Prop := deflateLimitsRow.holds Tryd.pinned (OpenSpec.ofChange deflateLimitsSpec)

/-- ITS FALSE NEIGHBOUR: 'it returns false'. Refute it at one input. -/
def deflateLimitsWrong : ChangeSpec := { name := "deflateLimits", fn := fun _ => fun
  | [d1, d2, d3] => { results := [.lit (.bool false)], args := [d1, d2, d3] }
  | _ => none }
def DeflateLimitsWrongFalsely : Prop := deflateLimitsRow.holds Tryd.pinned (OpenSpec.ofChange deflateLimitsWrong)

/-- 'barscanlaw34.DeflateRoundTrip': WHATEVER THE INPUT: true; the input reads as it did. -/
def deflateRoundTripSpec : ChangeSpec := { name := "deflateRoundTrip", fn := fun _ => fun
  | [d1, d2, d3] => { results := [.lit (.bool true)], args := [d1, d2, d3] }
  | _ => none }
def deflateRoundTripRow : OpenClaim := { program := "ytcmgbjmcklfkcaadoor", sum := "2f98f372aa9e0cef055dd995deca0ef19070731a04a3ab5b468f1cbc961a5328", func := "barscan/barscanlaw34.DeflateRoundTrip", spec := "deflateRoundTrip", unfollowed := true, recurses := true, named := ["barscan/deflate.order"], apart := false, laid := [("barscan/deflate.order", laid_barscan_deflate_order)] }
def DeflateRoundTripSaid : Prop := deflateRoundTripRow.holds Tryd.pinned (OpenSpec.ofChange deflateRoundTripSpec)

/-- ITS FALSE NEIGHBOUR: 'it returns false'. Refute it at one input. -/
def deflateRoundTripWrong : ChangeSpec := { name := "deflateRoundTrip", fn := fun _ => fun
  | [d1, d2, d3] => { results := [.lit (.bool false)], args := [d1, d2, d3] }
  | _ => none }
def DeflateRoundTripWrongFalsely : Prop := deflateRoundTripRow.holds Tryd.pinned (OpenSpec.ofChange deflateRoundTripWrong)

/-- 'barscanlaw34.DeflateTruncates': WHATEVER THE INPUT: true; the input reads as it did. -/
def deflateTruncatesSpec : ChangeSpec := { name := "deflateTruncates", fn := fun _ => fun
  | [d1, d2] => { results := [.lit (.bool true)], args := [d1, d2] }
  | _ => none }
def deflateTruncatesRow : OpenClaim := { program := "ytcmgbjmcklfkcaadoor", sum := "2f98f372aa9e0cef055dd995deca0ef19070731a04a3ab5b468f1cbc961a5328", func := "barscan/barscanlaw34.DeflateTruncates", spec := "deflateTruncates", unfollowed := true, recurses := true, named := ["barscan/deflate.order"], apart := false, laid := [("barscan/deflate.order", laid_barscan_deflate_order)] }
def DeflateTruncatesSaid : Prop := deflateTruncatesRow.holds Tryd.pinned (OpenSpec.ofChange deflateTruncatesSpec)

/-- ITS FALSE NEIGHBOUR: 'it returns false'. Refute it at one input. -/
def deflateTruncatesWrong : ChangeSpec := { name := "deflateTruncates", fn := fun _ => fun
  | [d1, d2] => { results := [.lit (.bool false)], args := [d1, d2] }
  | _ => none }
def DeflateTruncatesWrongFalsely : Prop := deflateTruncatesRow.holds Tryd.pinned (OpenSpec.ofChange deflateTruncatesWrong)

/- THE SECOND FORM. 'bulk': how many values and letters a reading holds, each counted each time it is reached (what is shared counts as often as it is met; a slice's spare places count too). A statement '..UptoSaid' is the law's where the arguments, and the package variables that the reading takes, are together of bulk at most 1048576: NARROWER than '..Said'. Prove '..Said' where nothing that the law and all that it calls make is longer than what came in: it says more and counts as full. Else prove '..UptoSaid'. A law counts once. -/
mutual
def uptoBulk {H : Type} : DataW H → Nat
  | .lit (.string bytes) => bytes.length + 1
  | .lit _ => 1
  | .nil => 1
  | .ptr d => uptoBulk d + 1
  | .slice elems spare => uptoBulkAll elems + uptoBulkAll spare + 1
  | .agg parts => uptoBulkAll parts + 1
  | .iface _ d => uptoBulk d + 1
  | .map entries => uptoBulkEntries entries + 1
  | .held _ => 1
def uptoBulkAll {H : Type} : List (DataW H) → Nat
  | [] => 0
  | d :: r => uptoBulk d + uptoBulkAll r
def uptoBulkEntries {H : Type} : List (Lit × DataW H) → Nat
  | [] => 0
  | x :: r => uptoBulkEntry x + uptoBulkEntries r
def uptoBulkEntry {H : Type} : Lit × DataW H → Nat
  | (.string bytes, d) => bytes.length + uptoBulk d + 1
  | (_, d) => uptoBulk d + 1
 end
def uptoSmall : (H : Type) → List (DataW H) → Bool := fun _ ds => decide (uptoBulkAll ds ≤ 1048576)
def OpenSpec.upto (s : _root_.Go.ChangeSpec) : _root_.Go.OpenSpec := { _root_.Go.OpenSpec.ofChange s with cond := some uptoSmall }

/-- 'barscanlaw34.DeflateCompresses', WHERE WHAT IT READS IS OF BULK AT MOST 1048576: true; the input reads as it did. -/
def deflateCompressesUptoRow : OpenClaim := { program := "ytcmgbjmcklfkcaadoor", sum := "2f98f372aa9e0cef055dd995deca0ef19070731a04a3ab5b468f1cbc961a5328", func := "barscan/barscanlaw34.DeflateCompresses", spec := "deflateCompresses", unfollowed := true, recurses := true, named := ["barscan/deflate.order"], apart := false, laid := [("barscan/deflate.order", laid_barscan_deflate_order)], narrowed := true }
def DeflateCompressesUptoSaid : Prop := deflateCompressesUptoRow.holds Tryd.pinned (OpenSpec.upto deflateCompressesSpec)

/-- 'barscanlaw34.DeflateStores', WHERE WHAT IT READS IS OF BULK AT MOST 1048576: true; the input reads as it did. -/
def deflateStoresUptoRow : OpenClaim := { program := "ytcmgbjmcklfkcaadoor", sum := "2f98f372aa9e0cef055dd995deca0ef19070731a04a3ab5b468f1cbc961a5328", func := "barscan/barscanlaw34.DeflateStores", spec := "deflateStores", unfollowed := true, recurses := true, named := ["barscan/deflate.order"], apart := false, laid := [("barscan/deflate.order", laid_barscan_deflate_order)], narrowed := true }
def DeflateStoresUptoSaid : Prop := deflateStoresUptoRow.holds Tryd.pinned (OpenSpec.upto deflateStoresSpec)

/-- 'barscanlaw34.DeflateTokens', WHERE WHAT IT READS IS OF BULK AT MOST 1048576: true; the input reads as it did. -/
def deflateTokensUptoRow : OpenClaim := { program := "ytcmgbjmcklfkcaadoor", sum := "2f98f372aa9e0cef055dd995deca0ef19070731a04a3ab5b468f1cbc961a5328", func := "barscan/barscanlaw34.DeflateTokens", spec := "deflateTokens", unfollowed := true, recurses := true, named := ["barscan/deflate.order"], apart := false, laid := [("barscan/deflate.order", laid_barscan_deflate_order)], narrowed := true }
def DeflateTokensUptoSaid : Prop := deflateTokensUptoRow.holds Tryd.pinned (OpenSpec.upto deflateTokensSpec)

/-- 'barscanlaw34.DeflateFactors', WHERE WHAT IT READS IS OF BULK AT MOST 1048576: true; the input reads as it did. -/
def deflateFactorsUptoRow : OpenClaim := { program := "ytcmgbjmcklfkcaadoor", sum := "2f98f372aa9e0cef055dd995deca0ef19070731a04a3ab5b468f1cbc961a5328", func := "barscan/barscanlaw34.DeflateFactors", spec := "deflateFactors", unfollowed := true, recurses := true, named := ["barscan/deflate.order"], apart := false, laid := [("barscan/deflate.order", laid_barscan_deflate_order)], narrowed := true }
def DeflateFactorsUptoSaid : Prop := deflateFactorsUptoRow.holds Tryd.pinned (OpenSpec.upto deflateFactorsSpec)

/-- 'barscanlaw34.DeflateLimits', WHERE WHAT IT READS IS OF BULK AT MOST 1048576: true; the input reads as it did. -/
def deflateLimitsUptoRow : OpenClaim := { program := "ytcmgbjmcklfkcaadoor", sum := "2f98f372aa9e0cef055dd995deca0ef19070731a04a3ab5b468f1cbc961a5328", func := "barscan/barscanlaw34.DeflateLimits", spec := "deflateLimits", unfollowed := true, recurses := true, named := ["barscan/deflate.order"], apart := false, laid := [("barscan/deflate.order", laid_barscan_deflate_order)], narrowed := true }
def DeflateLimitsUptoSaid : Prop := deflateLimitsUptoRow.holds Tryd.pinned (OpenSpec.upto deflateLimitsSpec)

/-- 'barscanlaw34.DeflateRoundTrip', WHERE WHAT IT READS IS OF BULK AT MOST 1048576: true; the input reads as it did. -/
def deflateRoundTripUptoRow : OpenClaim := { program := "ytcmgbjmcklfkcaadoor", sum := "2f98f372aa9e0cef055dd995deca0ef19070731a04a3ab5b468f1cbc961a5328", func := "barscan/barscanlaw34.DeflateRoundTrip", spec := "deflateRoundTrip", unfollowed := true, recurses := true, named := ["barscan/deflate.order"], apart := false, laid := [("barscan/deflate.order", laid_barscan_deflate_order)], narrowed := true }
def DeflateRoundTripUptoSaid : Prop := deflateRoundTripUptoRow.holds Tryd.pinned (OpenSpec.upto deflateRoundTripSpec)

/-- 'barscanlaw34.DeflateTruncates', WHERE WHAT IT READS IS OF BULK AT MOST 1048576: true; the input reads as it did. -/
def deflateTruncatesUptoRow : OpenClaim := { program := "ytcmgbjmcklfkcaadoor", sum := "2f98f372aa9e0cef055dd995deca0ef19070731a04a3ab5b468f1cbc961a5328", func := "barscan/barscanlaw34.DeflateTruncates", spec := "deflateTruncates", unfollowed := true, recurses := true, named := ["barscan/deflate.order"], apart := false, laid := [("barscan/deflate.order", laid_barscan_deflate_order)], narrowed := true }
def DeflateTruncatesUptoSaid : Prop := deflateTruncatesUptoRow.holds Tryd.pinned (OpenSpec.upto deflateTruncatesSpec)

end Rows
end Go.Proofs.YtcmgbjmcklfkcaaDoor
