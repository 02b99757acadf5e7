/-
  DERIVED. GIVEN WITH THE SEED: THE CARDS: each row of YtajklleiifhipaaGreatDoorRows.lean that lists a variable, with what it lists TIED to the program's text (the seventh form; the later family's looks); each row that meets fmt, with fmt's text TOLD by the authors' own Lean function (tested against real Go, not proved from fmt's source: count such statements apart). THE CARD IS WHAT COUNTS. Prove the row's statement (the work); the ties are given (YtajklleiifhipaaGreatDoorTie.lean); close each card by the builder's one call (the guide's Derived/Test/ToyasCard.lean, 'card_holds'). Laid BY PROGRAM, IN A SANDBOX (cutbox-door.mjs). By AI agents, Wed Nov 11 2026. No macro, syntax, notation, axiom, sorry.
-/
import Derived.Test.YtajklleiifhipaaGreatDoorRows
import GoSem.ClaimSeven
namespace Go.Proofs.YtajklleiifhipaaGreatDoor
namespace Rows

/-- THE TIED CARD OF 'barscanlaw35.PngWrites'. -/
def pngWritesCard : Claim7 := { stood := { row := pngWritesRow, standIns := [], harness := (true, "6928ce0cc7cc32913c44a06974bc8bd522030bfe48ab3d14da696142af1dca7f"), looks := false }, kinds := [], alts := [], laidByText := true, laidKinds := [.data], laidTests := true, laidLooks := .later }
def PngWritesCardSaid : Prop := Claim7.holds Tryz.pinned (.plain (OpenSpec.ofChange pngWritesSpec)) pngWritesCard

/-- THE TIED CARD OF 'barscanlaw35.PngReads'. -/
def pngReadsCard : Claim7 := { stood := { row := pngReadsRow, standIns := [], harness := (true, "6928ce0cc7cc32913c44a06974bc8bd522030bfe48ab3d14da696142af1dca7f"), looks := false }, kinds := [], alts := [], laidByText := true, laidKinds := [.data], laidTests := true, laidLooks := .later }
def PngReadsCardSaid : Prop := Claim7.holds Tryz.pinned (.plain (OpenSpec.ofChange pngReadsSpec)) pngReadsCard

/-- THE SECOND FORM's CARD OF 'barscanlaw35.PngWrites'. -/
def pngWritesUptoCard : Claim7 := { stood := { row := pngWritesUptoRow, standIns := [], harness := (true, "6928ce0cc7cc32913c44a06974bc8bd522030bfe48ab3d14da696142af1dca7f"), looks := false }, kinds := [], alts := [], laidByText := true, laidKinds := [.data], laidTests := true, laidLooks := .later }
def PngWritesUptoCardSaid : Prop := Claim7.holds Tryz.pinned (.plain (OpenSpec.upto pngWritesSpec)) pngWritesUptoCard

/-- THE SECOND FORM's CARD OF 'barscanlaw35.PngReads'. -/
def pngReadsUptoCard : Claim7 := { stood := { row := pngReadsUptoRow, standIns := [], harness := (true, "6928ce0cc7cc32913c44a06974bc8bd522030bfe48ab3d14da696142af1dca7f"), looks := false }, kinds := [], alts := [], laidByText := true, laidKinds := [.data], laidTests := true, laidLooks := .later }
def PngReadsUptoCardSaid : Prop := Claim7.holds Tryz.pinned (.plain (OpenSpec.upto pngReadsSpec)) pngReadsUptoCard
end Rows
end Go.Proofs.YtajklleiifhipaaGreatDoor
