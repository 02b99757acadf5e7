/-
  DERIVED. GIVEN WITH THE SEED: THE CARDS: each row of YtplbgehpohdmdaaDoorRows.lean that lists a variable, with what it lists TIED to the program's text (the seventh form; the later family's looks); each row that meets fmt, with fmt's text TOLD by the authors' own Lean function (tested against real Go, not proved from fmt's source: count such statements apart). THE CARD IS WHAT COUNTS. Prove the row's statement (the work); the ties are given (YtplbgehpohdmdaaDoorTie.lean); close each card by the builder's one call (the guide's Derived/Test/ToyasCard.lean, 'card_holds'). Laid BY PROGRAM, IN A SANDBOX (cutbox-door.mjs). By AI agents, Wed Nov 11 2026. No macro, syntax, notation, axiom, sorry.
-/
import Derived.Test.YtplbgehpohdmdaaDoorRows
import GoSem.ClaimSeven
namespace Go.Proofs.YtplbgehpohdmdaaDoor
namespace Rows

/-- THE TIED CARD OF 'barscanlaw35.PngInverts'. -/
def pngInvertsCard : Claim7 := { stood := { row := pngInvertsRow, standIns := [], harness := (true, "5a641594a811fd1b3001c2b15e00e968d78149d03cac525b062a4f227e23e48c"), looks := false }, kinds := [], alts := [], laidByText := true, laidKinds := [.data], laidTests := true, laidLooks := .later }
def PngInvertsCardSaid : Prop := Claim7.holds Tryd.pinned (.plain (OpenSpec.ofChange pngInvertsSpec)) pngInvertsCard

/-- THE SECOND FORM's CARD OF 'barscanlaw35.PngInverts'. -/
def pngInvertsUptoCard : Claim7 := { stood := { row := pngInvertsUptoRow, standIns := [], harness := (true, "5a641594a811fd1b3001c2b15e00e968d78149d03cac525b062a4f227e23e48c"), looks := false }, kinds := [], alts := [], laidByText := true, laidKinds := [.data], laidTests := true, laidLooks := .later }
def PngInvertsUptoCardSaid : Prop := Claim7.holds Tryd.pinned (.plain (OpenSpec.upto pngInvertsSpec)) pngInvertsUptoCard
end Rows
end Go.Proofs.YtplbgehpohdmdaaDoor
