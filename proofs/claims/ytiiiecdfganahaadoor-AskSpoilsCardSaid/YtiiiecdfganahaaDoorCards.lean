/-
  DERIVED. GIVEN WITH THE SEED: THE CARDS: each row of YtiiiecdfganahaaDoorRows.lean that lists a variable, with what it lists TIED to the program's text (the seventh form; the later family's looks); each row that meets fmt, with fmt's text TOLD by the authors' own Lean function (tested against real Go, not proved from fmt's source: count such statements apart). THE CARD IS WHAT COUNTS. Prove the row's statement (the work); the ties are given (YtiiiecdfganahaaDoorTie.lean); close each card by the builder's one call (the guide's Derived/Test/ToyasCard.lean, 'card_holds'). Laid BY PROGRAM, IN A SANDBOX (cutbox-door.mjs). By AI agents, Wed Nov 11 2026. No macro, syntax, notation, axiom, sorry.
-/
import Derived.Test.YtiiiecdfganahaaDoorRows
import GoSem.ClaimSeven
namespace Go.Proofs.YtiiiecdfganahaaDoor
namespace Rows

/-- THE TIED CARD OF 'padlocklaw31.AskHex'. -/
def askHexCard : Claim7 := { stood := { row := askHexRow, standIns := [], harness := (true, "17a7fc0544877f1af70b1a15a634031b272a647aaf35f13e59fc57491c80adc7"), looks := false }, kinds := [], alts := [], laidByText := true, laidKinds := [.data, .pinned], laidTests := true, laidLooks := .later }
def AskHexCardSaid : Prop := Claim7.holds Tryd.pinned (.plain (OpenSpec.ofChange askHexSpec)) askHexCard

/-- THE TIED CARD OF 'padlocklaw31.AskBack'. -/
def askBackCard : Claim7 := { stood := { row := askBackRow, standIns := [], harness := (true, "17a7fc0544877f1af70b1a15a634031b272a647aaf35f13e59fc57491c80adc7"), looks := false }, kinds := [], alts := [], laidByText := true, laidKinds := [.data, .pinned], laidTests := true, laidLooks := .later }
def AskBackCardSaid : Prop := Claim7.holds Tryd.pinned (.plain (OpenSpec.ofChange askBackSpec)) askBackCard

/-- THE TIED CARD OF 'padlocklaw31.AskSpoils'. -/
def askSpoilsCard : Claim7 := { stood := { row := askSpoilsRow, standIns := [], harness := (true, "17a7fc0544877f1af70b1a15a634031b272a647aaf35f13e59fc57491c80adc7"), looks := false }, kinds := [], alts := [], laidByText := true, laidKinds := [.data, .pinned], laidTests := true, laidLooks := .later }
def AskSpoilsCardSaid : Prop := Claim7.holds Tryd.pinned (.plain (OpenSpec.ofChange askSpoilsSpec)) askSpoilsCard

/-- THE SECOND FORM's CARD OF 'padlocklaw31.AskHex'. -/
def askHexUptoCard : Claim7 := { stood := { row := askHexUptoRow, standIns := [], harness := (true, "17a7fc0544877f1af70b1a15a634031b272a647aaf35f13e59fc57491c80adc7"), looks := false }, kinds := [], alts := [], laidByText := true, laidKinds := [.data, .pinned], laidTests := true, laidLooks := .later }
def AskHexUptoCardSaid : Prop := Claim7.holds Tryd.pinned (.plain (OpenSpec.upto askHexSpec)) askHexUptoCard

/-- THE SECOND FORM's CARD OF 'padlocklaw31.AskBack'. -/
def askBackUptoCard : Claim7 := { stood := { row := askBackUptoRow, standIns := [], harness := (true, "17a7fc0544877f1af70b1a15a634031b272a647aaf35f13e59fc57491c80adc7"), looks := false }, kinds := [], alts := [], laidByText := true, laidKinds := [.data, .pinned], laidTests := true, laidLooks := .later }
def AskBackUptoCardSaid : Prop := Claim7.holds Tryd.pinned (.plain (OpenSpec.upto askBackSpec)) askBackUptoCard

/-- THE SECOND FORM's CARD OF 'padlocklaw31.AskSpoils'. -/
def askSpoilsUptoCard : Claim7 := { stood := { row := askSpoilsUptoRow, standIns := [], harness := (true, "17a7fc0544877f1af70b1a15a634031b272a647aaf35f13e59fc57491c80adc7"), looks := false }, kinds := [], alts := [], laidByText := true, laidKinds := [.data, .pinned], laidTests := true, laidLooks := .later }
def AskSpoilsUptoCardSaid : Prop := Claim7.holds Tryd.pinned (.plain (OpenSpec.upto askSpoilsSpec)) askSpoilsUptoCard
end Rows
end Go.Proofs.YtiiiecdfganahaaDoor
