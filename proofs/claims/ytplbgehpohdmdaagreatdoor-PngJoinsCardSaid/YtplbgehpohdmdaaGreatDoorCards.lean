/-
  DERIVED. GIVEN WITH THE SEED: THE CARDS: each row of YtplbgehpohdmdaaGreatDoorRows.lean that lists a variable, with what it lists TIED to the program's text (the seventh form; the later family's looks); each row that meets fmt, with fmt's text TOLD by the authors' own Lean function (tested against real Go, not proved from fmt's source: count such statements apart). THE CARD IS WHAT COUNTS. Prove the row's statement (the work); the ties are given (YtplbgehpohdmdaaGreatDoorTie.lean); close each card by the builder's one call (the guide's Derived/Test/ToyasCard.lean, 'card_holds'). Laid BY PROGRAM, IN A SANDBOX (cutbox-door.mjs). By AI agents, Wed Nov 11 2026. No macro, syntax, notation, axiom, sorry.
-/
import Derived.Test.YtplbgehpohdmdaaGreatDoorRows
import GoSem.ClaimSeven
namespace Go.Proofs.YtplbgehpohdmdaaGreatDoor
namespace Rows

/-- THE TIED CARD OF 'barscanlaw35.PngChunks'. -/
def pngChunksCard : Claim7 := { stood := { row := pngChunksRow, standIns := [], harness := (true, "3be24cb4792dbbca6891e37442d21a127b142f7e7a8b44a1a1cad3f9ff56f48a"), looks := false }, kinds := [], alts := [], laidByText := true, laidKinds := [.data], laidTests := true, laidLooks := .later }
def PngChunksCardSaid : Prop := Claim7.holds Tryz.pinned (.plain (OpenSpec.ofChange pngChunksSpec)) pngChunksCard

/-- THE TIED CARD OF 'barscanlaw35.PngJoins'. -/
def pngJoinsCard : Claim7 := { stood := { row := pngJoinsRow, standIns := [], harness := (true, "3be24cb4792dbbca6891e37442d21a127b142f7e7a8b44a1a1cad3f9ff56f48a"), looks := false }, kinds := [], alts := [], laidByText := true, laidKinds := [.data], laidTests := true, laidLooks := .later }
def PngJoinsCardSaid : Prop := Claim7.holds Tryz.pinned (.plain (OpenSpec.ofChange pngJoinsSpec)) pngJoinsCard

/-- THE TIED CARD OF 'barscanlaw35.PngFilters'. -/
def pngFiltersCard : Claim7 := { stood := { row := pngFiltersRow, standIns := [], harness := (true, "3be24cb4792dbbca6891e37442d21a127b142f7e7a8b44a1a1cad3f9ff56f48a"), looks := false }, kinds := [], alts := [], laidByText := true, laidKinds := [.data], laidTests := true, laidLooks := .later }
def PngFiltersCardSaid : Prop := Claim7.holds Tryz.pinned (.plain (OpenSpec.ofChange pngFiltersSpec)) pngFiltersCard

/-- THE TIED CARD OF 'barscanlaw35.PngWrites'. -/
def pngWritesCard : Claim7 := { stood := { row := pngWritesRow, standIns := [], harness := (true, "3be24cb4792dbbca6891e37442d21a127b142f7e7a8b44a1a1cad3f9ff56f48a"), looks := false }, kinds := [], alts := [], laidByText := true, laidKinds := [.data], laidTests := true, laidLooks := .later }
def PngWritesCardSaid : Prop := Claim7.holds Tryz.pinned (.plain (OpenSpec.ofChange pngWritesSpec)) pngWritesCard

/-- THE TIED CARD OF 'barscanlaw35.PngReads'. -/
def pngReadsCard : Claim7 := { stood := { row := pngReadsRow, standIns := [], harness := (true, "3be24cb4792dbbca6891e37442d21a127b142f7e7a8b44a1a1cad3f9ff56f48a"), looks := false }, kinds := [], alts := [], laidByText := true, laidKinds := [.data], laidTests := true, laidLooks := .later }
def PngReadsCardSaid : Prop := Claim7.holds Tryz.pinned (.plain (OpenSpec.ofChange pngReadsSpec)) pngReadsCard

/-- THE TIED CARD OF 'barscanlaw35.PngRoundTrip'. -/
def pngRoundTripCard : Claim7 := { stood := { row := pngRoundTripRow, standIns := [], harness := (true, "3be24cb4792dbbca6891e37442d21a127b142f7e7a8b44a1a1cad3f9ff56f48a"), looks := false }, kinds := [], alts := [], laidByText := true, laidKinds := [.data], laidTests := true, laidLooks := .later }
def PngRoundTripCardSaid : Prop := Claim7.holds Tryz.pinned (.plain (OpenSpec.ofChange pngRoundTripSpec)) pngRoundTripCard

/-- THE TIED CARD OF 'barscanlaw35.PngRestores'. -/
def pngRestoresCard : Claim7 := { stood := { row := pngRestoresRow, standIns := [], harness := (true, "3be24cb4792dbbca6891e37442d21a127b142f7e7a8b44a1a1cad3f9ff56f48a"), looks := false }, kinds := [], alts := [], laidByText := true, laidKinds := [.data], laidTests := true, laidLooks := .later }
def PngRestoresCardSaid : Prop := Claim7.holds Tryz.pinned (.plain (OpenSpec.ofChange pngRestoresSpec)) pngRestoresCard

/-- THE TIED CARD OF 'barscanlaw35.PngDetects'. -/
def pngDetectsCard : Claim7 := { stood := { row := pngDetectsRow, standIns := [], harness := (true, "3be24cb4792dbbca6891e37442d21a127b142f7e7a8b44a1a1cad3f9ff56f48a"), looks := false }, kinds := [], alts := [], laidByText := true, laidKinds := [.data], laidTests := true, laidLooks := .later }
def PngDetectsCardSaid : Prop := Claim7.holds Tryz.pinned (.plain (OpenSpec.ofChange pngDetectsSpec)) pngDetectsCard

/-- THE TIED CARD OF 'barscanlaw35.PngIgnores'. -/
def pngIgnoresCard : Claim7 := { stood := { row := pngIgnoresRow, standIns := [], harness := (true, "3be24cb4792dbbca6891e37442d21a127b142f7e7a8b44a1a1cad3f9ff56f48a"), looks := false }, kinds := [], alts := [], laidByText := true, laidKinds := [.data], laidTests := true, laidLooks := .later }
def PngIgnoresCardSaid : Prop := Claim7.holds Tryz.pinned (.plain (OpenSpec.ofChange pngIgnoresSpec)) pngIgnoresCard

/-- THE SECOND FORM's CARD OF 'barscanlaw35.PngChunks'. -/
def pngChunksUptoCard : Claim7 := { stood := { row := pngChunksUptoRow, standIns := [], harness := (true, "3be24cb4792dbbca6891e37442d21a127b142f7e7a8b44a1a1cad3f9ff56f48a"), looks := false }, kinds := [], alts := [], laidByText := true, laidKinds := [.data], laidTests := true, laidLooks := .later }
def PngChunksUptoCardSaid : Prop := Claim7.holds Tryz.pinned (.plain (OpenSpec.upto pngChunksSpec)) pngChunksUptoCard

/-- THE SECOND FORM's CARD OF 'barscanlaw35.PngJoins'. -/
def pngJoinsUptoCard : Claim7 := { stood := { row := pngJoinsUptoRow, standIns := [], harness := (true, "3be24cb4792dbbca6891e37442d21a127b142f7e7a8b44a1a1cad3f9ff56f48a"), looks := false }, kinds := [], alts := [], laidByText := true, laidKinds := [.data], laidTests := true, laidLooks := .later }
def PngJoinsUptoCardSaid : Prop := Claim7.holds Tryz.pinned (.plain (OpenSpec.upto pngJoinsSpec)) pngJoinsUptoCard

/-- THE SECOND FORM's CARD OF 'barscanlaw35.PngFilters'. -/
def pngFiltersUptoCard : Claim7 := { stood := { row := pngFiltersUptoRow, standIns := [], harness := (true, "3be24cb4792dbbca6891e37442d21a127b142f7e7a8b44a1a1cad3f9ff56f48a"), looks := false }, kinds := [], alts := [], laidByText := true, laidKinds := [.data], laidTests := true, laidLooks := .later }
def PngFiltersUptoCardSaid : Prop := Claim7.holds Tryz.pinned (.plain (OpenSpec.upto pngFiltersSpec)) pngFiltersUptoCard

/-- THE SECOND FORM's CARD OF 'barscanlaw35.PngWrites'. -/
def pngWritesUptoCard : Claim7 := { stood := { row := pngWritesUptoRow, standIns := [], harness := (true, "3be24cb4792dbbca6891e37442d21a127b142f7e7a8b44a1a1cad3f9ff56f48a"), looks := false }, kinds := [], alts := [], laidByText := true, laidKinds := [.data], laidTests := true, laidLooks := .later }
def PngWritesUptoCardSaid : Prop := Claim7.holds Tryz.pinned (.plain (OpenSpec.upto pngWritesSpec)) pngWritesUptoCard

/-- THE SECOND FORM's CARD OF 'barscanlaw35.PngReads'. -/
def pngReadsUptoCard : Claim7 := { stood := { row := pngReadsUptoRow, standIns := [], harness := (true, "3be24cb4792dbbca6891e37442d21a127b142f7e7a8b44a1a1cad3f9ff56f48a"), looks := false }, kinds := [], alts := [], laidByText := true, laidKinds := [.data], laidTests := true, laidLooks := .later }
def PngReadsUptoCardSaid : Prop := Claim7.holds Tryz.pinned (.plain (OpenSpec.upto pngReadsSpec)) pngReadsUptoCard

/-- THE SECOND FORM's CARD OF 'barscanlaw35.PngRoundTrip'. -/
def pngRoundTripUptoCard : Claim7 := { stood := { row := pngRoundTripUptoRow, standIns := [], harness := (true, "3be24cb4792dbbca6891e37442d21a127b142f7e7a8b44a1a1cad3f9ff56f48a"), looks := false }, kinds := [], alts := [], laidByText := true, laidKinds := [.data], laidTests := true, laidLooks := .later }
def PngRoundTripUptoCardSaid : Prop := Claim7.holds Tryz.pinned (.plain (OpenSpec.upto pngRoundTripSpec)) pngRoundTripUptoCard

/-- THE SECOND FORM's CARD OF 'barscanlaw35.PngRestores'. -/
def pngRestoresUptoCard : Claim7 := { stood := { row := pngRestoresUptoRow, standIns := [], harness := (true, "3be24cb4792dbbca6891e37442d21a127b142f7e7a8b44a1a1cad3f9ff56f48a"), looks := false }, kinds := [], alts := [], laidByText := true, laidKinds := [.data], laidTests := true, laidLooks := .later }
def PngRestoresUptoCardSaid : Prop := Claim7.holds Tryz.pinned (.plain (OpenSpec.upto pngRestoresSpec)) pngRestoresUptoCard

/-- THE SECOND FORM's CARD OF 'barscanlaw35.PngDetects'. -/
def pngDetectsUptoCard : Claim7 := { stood := { row := pngDetectsUptoRow, standIns := [], harness := (true, "3be24cb4792dbbca6891e37442d21a127b142f7e7a8b44a1a1cad3f9ff56f48a"), looks := false }, kinds := [], alts := [], laidByText := true, laidKinds := [.data], laidTests := true, laidLooks := .later }
def PngDetectsUptoCardSaid : Prop := Claim7.holds Tryz.pinned (.plain (OpenSpec.upto pngDetectsSpec)) pngDetectsUptoCard

/-- THE SECOND FORM's CARD OF 'barscanlaw35.PngIgnores'. -/
def pngIgnoresUptoCard : Claim7 := { stood := { row := pngIgnoresUptoRow, standIns := [], harness := (true, "3be24cb4792dbbca6891e37442d21a127b142f7e7a8b44a1a1cad3f9ff56f48a"), looks := false }, kinds := [], alts := [], laidByText := true, laidKinds := [.data], laidTests := true, laidLooks := .later }
def PngIgnoresUptoCardSaid : Prop := Claim7.holds Tryz.pinned (.plain (OpenSpec.upto pngIgnoresSpec)) pngIgnoresUptoCard
end Rows
end Go.Proofs.YtplbgehpohdmdaaGreatDoor
