/-
  DERIVED. GIVEN WITH THE SEED: THE CARDS: each row of YtcmgbjmcklfkcaaDoorRows.lean that lists a variable, with what it lists TIED to the program's text (the seventh form; the later family's looks); each row that meets fmt, with fmt's text TOLD by the authors' own Lean function (tested against real Go, not proved from fmt's source: count such statements apart). THE CARD IS WHAT COUNTS. Prove the row's statement (the work); the ties are given (YtcmgbjmcklfkcaaDoorTie.lean); close each card by the builder's one call (the guide's Derived/Test/ToyasCard.lean, 'card_holds'). Laid BY PROGRAM, IN A SANDBOX (cutbox-door.mjs). By AI agents, Wed Nov 11 2026. No macro, syntax, notation, axiom, sorry.
-/
import Derived.Test.YtcmgbjmcklfkcaaDoorRows
import GoSem.ClaimSeven
namespace Go.Proofs.YtcmgbjmcklfkcaaDoor
namespace Rows

/-- THE TIED CARD OF 'barscanlaw34.DeflateCompresses'. -/
def deflateCompressesCard : Claim7 := { stood := { row := deflateCompressesRow, standIns := [], harness := (true, "87bc443d56b734b1a47adb08b7042f0f0788d478b0dfc5896d97752c5e8dbd73"), looks := false }, kinds := [], alts := [], laidByText := true, laidKinds := [.data], laidTests := true, laidLooks := .later }
def DeflateCompressesCardSaid : Prop := Claim7.holds Tryd.pinned (.plain (OpenSpec.ofChange deflateCompressesSpec)) deflateCompressesCard

/-- THE TIED CARD OF 'barscanlaw34.DeflateStores'. -/
def deflateStoresCard : Claim7 := { stood := { row := deflateStoresRow, standIns := [], harness := (true, "87bc443d56b734b1a47adb08b7042f0f0788d478b0dfc5896d97752c5e8dbd73"), looks := false }, kinds := [], alts := [], laidByText := true, laidKinds := [.data], laidTests := true, laidLooks := .later }
def DeflateStoresCardSaid : Prop := Claim7.holds Tryd.pinned (.plain (OpenSpec.ofChange deflateStoresSpec)) deflateStoresCard

/-- THE TIED CARD OF 'barscanlaw34.DeflateTokens'. -/
def deflateTokensCard : Claim7 := { stood := { row := deflateTokensRow, standIns := [], harness := (true, "87bc443d56b734b1a47adb08b7042f0f0788d478b0dfc5896d97752c5e8dbd73"), looks := false }, kinds := [], alts := [], laidByText := true, laidKinds := [.data], laidTests := true, laidLooks := .later }
def DeflateTokensCardSaid : Prop := Claim7.holds Tryd.pinned (.plain (OpenSpec.ofChange deflateTokensSpec)) deflateTokensCard

/-- THE TIED CARD OF 'barscanlaw34.DeflateFactors'. -/
def deflateFactorsCard : Claim7 := { stood := { row := deflateFactorsRow, standIns := [], harness := (true, "87bc443d56b734b1a47adb08b7042f0f0788d478b0dfc5896d97752c5e8dbd73"), looks := false }, kinds := [], alts := [], laidByText := true, laidKinds := [.data], laidTests := true, laidLooks := .later }
def DeflateFactorsCardSaid : Prop := Claim7.holds Tryd.pinned (.plain (OpenSpec.ofChange deflateFactorsSpec)) deflateFactorsCard

/-- THE TIED CARD OF 'barscanlaw34.DeflateLimits'. -/
def deflateLimitsCard : Claim7 := { stood := { row := deflateLimitsRow, standIns := [], harness := (true, "87bc443d56b734b1a47adb08b7042f0f0788d478b0dfc5896d97752c5e8dbd73"), looks := false }, kinds := [], alts := [], laidByText := true, laidKinds := [.data], laidTests := true, laidLooks := .later }
def DeflateLimitsCardSaid : Prop := Claim7.holds Tryd.pinned (.plain (OpenSpec.ofChange deflateLimitsSpec)) deflateLimitsCard

/-- THE TIED CARD OF 'barscanlaw34.DeflateRoundTrip'. -/
def deflateRoundTripCard : Claim7 := { stood := { row := deflateRoundTripRow, standIns := [], harness := (true, "87bc443d56b734b1a47adb08b7042f0f0788d478b0dfc5896d97752c5e8dbd73"), looks := false }, kinds := [], alts := [], laidByText := true, laidKinds := [.data], laidTests := true, laidLooks := .later }
def DeflateRoundTripCardSaid : Prop := Claim7.holds Tryd.pinned (.plain (OpenSpec.ofChange deflateRoundTripSpec)) deflateRoundTripCard

/-- THE TIED CARD OF 'barscanlaw34.DeflateTruncates'. -/
def deflateTruncatesCard : Claim7 := { stood := { row := deflateTruncatesRow, standIns := [], harness := (true, "87bc443d56b734b1a47adb08b7042f0f0788d478b0dfc5896d97752c5e8dbd73"), looks := false }, kinds := [], alts := [], laidByText := true, laidKinds := [.data], laidTests := true, laidLooks := .later }
def DeflateTruncatesCardSaid : Prop := Claim7.holds Tryd.pinned (.plain (OpenSpec.ofChange deflateTruncatesSpec)) deflateTruncatesCard

/-- THE SECOND FORM's CARD OF 'barscanlaw34.DeflateCompresses'. -/
def deflateCompressesUptoCard : Claim7 := { stood := { row := deflateCompressesUptoRow, standIns := [], harness := (true, "87bc443d56b734b1a47adb08b7042f0f0788d478b0dfc5896d97752c5e8dbd73"), looks := false }, kinds := [], alts := [], laidByText := true, laidKinds := [.data], laidTests := true, laidLooks := .later }
def DeflateCompressesUptoCardSaid : Prop := Claim7.holds Tryd.pinned (.plain (OpenSpec.upto deflateCompressesSpec)) deflateCompressesUptoCard

/-- THE SECOND FORM's CARD OF 'barscanlaw34.DeflateStores'. -/
def deflateStoresUptoCard : Claim7 := { stood := { row := deflateStoresUptoRow, standIns := [], harness := (true, "87bc443d56b734b1a47adb08b7042f0f0788d478b0dfc5896d97752c5e8dbd73"), looks := false }, kinds := [], alts := [], laidByText := true, laidKinds := [.data], laidTests := true, laidLooks := .later }
def DeflateStoresUptoCardSaid : Prop := Claim7.holds Tryd.pinned (.plain (OpenSpec.upto deflateStoresSpec)) deflateStoresUptoCard

/-- THE SECOND FORM's CARD OF 'barscanlaw34.DeflateTokens'. -/
def deflateTokensUptoCard : Claim7 := { stood := { row := deflateTokensUptoRow, standIns := [], harness := (true, "87bc443d56b734b1a47adb08b7042f0f0788d478b0dfc5896d97752c5e8dbd73"), looks := false }, kinds := [], alts := [], laidByText := true, laidKinds := [.data], laidTests := true, laidLooks := .later }
def DeflateTokensUptoCardSaid : Prop := Claim7.holds Tryd.pinned (.plain (OpenSpec.upto deflateTokensSpec)) deflateTokensUptoCard

/-- THE SECOND FORM's CARD OF 'barscanlaw34.DeflateFactors'. -/
def deflateFactorsUptoCard : Claim7 := { stood := { row := deflateFactorsUptoRow, standIns := [], harness := (true, "87bc443d56b734b1a47adb08b7042f0f0788d478b0dfc5896d97752c5e8dbd73"), looks := false }, kinds := [], alts := [], laidByText := true, laidKinds := [.data], laidTests := true, laidLooks := .later }
def DeflateFactorsUptoCardSaid : Prop := Claim7.holds Tryd.pinned (.plain (OpenSpec.upto deflateFactorsSpec)) deflateFactorsUptoCard

/-- THE SECOND FORM's CARD OF 'barscanlaw34.DeflateLimits'. -/
def deflateLimitsUptoCard : Claim7 := { stood := { row := deflateLimitsUptoRow, standIns := [], harness := (true, "87bc443d56b734b1a47adb08b7042f0f0788d478b0dfc5896d97752c5e8dbd73"), looks := false }, kinds := [], alts := [], laidByText := true, laidKinds := [.data], laidTests := true, laidLooks := .later }
def DeflateLimitsUptoCardSaid : Prop := Claim7.holds Tryd.pinned (.plain (OpenSpec.upto deflateLimitsSpec)) deflateLimitsUptoCard

/-- THE SECOND FORM's CARD OF 'barscanlaw34.DeflateRoundTrip'. -/
def deflateRoundTripUptoCard : Claim7 := { stood := { row := deflateRoundTripUptoRow, standIns := [], harness := (true, "87bc443d56b734b1a47adb08b7042f0f0788d478b0dfc5896d97752c5e8dbd73"), looks := false }, kinds := [], alts := [], laidByText := true, laidKinds := [.data], laidTests := true, laidLooks := .later }
def DeflateRoundTripUptoCardSaid : Prop := Claim7.holds Tryd.pinned (.plain (OpenSpec.upto deflateRoundTripSpec)) deflateRoundTripUptoCard

/-- THE SECOND FORM's CARD OF 'barscanlaw34.DeflateTruncates'. -/
def deflateTruncatesUptoCard : Claim7 := { stood := { row := deflateTruncatesUptoRow, standIns := [], harness := (true, "87bc443d56b734b1a47adb08b7042f0f0788d478b0dfc5896d97752c5e8dbd73"), looks := false }, kinds := [], alts := [], laidByText := true, laidKinds := [.data], laidTests := true, laidLooks := .later }
def DeflateTruncatesUptoCardSaid : Prop := Claim7.holds Tryd.pinned (.plain (OpenSpec.upto deflateTruncatesSpec)) deflateTruncatesUptoCard
end Rows
end Go.Proofs.YtcmgbjmcklfkcaaDoor
