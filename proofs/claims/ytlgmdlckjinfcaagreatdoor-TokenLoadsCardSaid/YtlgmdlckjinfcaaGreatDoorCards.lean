/-
  DERIVED. GIVEN WITH THE SEED: THE CARDS: each row of YtlgmdlckjinfcaaGreatDoorRows.lean that lists a variable, with what it lists TIED to the program's text (the seventh form; the later family's looks); each row that meets fmt, with fmt's text TOLD by the authors' own Lean function (tested against real Go, not proved from fmt's source: count such statements apart). THE CARD IS WHAT COUNTS. Prove the row's statement (the work); the ties are given (YtlgmdlckjinfcaaGreatDoorTie.lean); close each card by the builder's one call (the guide's Derived/Test/ToyasCard.lean, 'card_holds'). Laid BY PROGRAM, IN A SANDBOX (cutbox-door.mjs). By AI agents, Wed Nov 11 2026. No macro, syntax, notation, axiom, sorry.
-/
import Derived.Test.YtlgmdlckjinfcaaGreatDoorRows
import GoSem.ClaimSeven
namespace Go.Proofs.YtlgmdlckjinfcaaGreatDoor
namespace Rows

/-- THE TIED CARD OF 'padlocklaw29.TokenDoes'. -/
def tokenDoesCard : Claim7 := { stood := { row := tokenDoesRow, standIns := [], harness := (true, "04768387b21e2525acafbaaeae3534ab3438b5d542c0a5b77d43531e1eb32e5b"), looks := false }, kinds := [], alts := [], laidByText := true, laidKinds := [.data, .pinned], laidTests := true, laidLooks := .later }
def TokenDoesCardSaid : Prop := Claim7.holds Tryz.pinned (.plain (OpenSpec.ofChange tokenDoesSpec)) tokenDoesCard

/-- THE TIED CARD OF 'padlocklaw29.TokenNever'. -/
def tokenNeverCard : Claim7 := { stood := { row := tokenNeverRow, standIns := [], harness := (true, "04768387b21e2525acafbaaeae3534ab3438b5d542c0a5b77d43531e1eb32e5b"), looks := false }, kinds := [], alts := [], laidByText := true, laidKinds := [.data, .pinned], laidTests := true, laidLooks := .later }
def TokenNeverCardSaid : Prop := Claim7.holds Tryz.pinned (.plain (OpenSpec.ofChange tokenNeverSpec)) tokenNeverCard

/-- THE TIED CARD OF 'padlocklaw29.TokenRevokes'. -/
def tokenRevokesCard : Claim7 := { stood := { row := tokenRevokesRow, standIns := [], harness := (true, "04768387b21e2525acafbaaeae3534ab3438b5d542c0a5b77d43531e1eb32e5b"), looks := false }, kinds := [], alts := [], laidByText := true, laidKinds := [.data, .pinned], laidTests := true, laidLooks := .later }
def TokenRevokesCardSaid : Prop := Claim7.holds Tryz.pinned (.plain (OpenSpec.ofChange tokenRevokesSpec)) tokenRevokesCard

/-- THE TIED CARD OF 'padlocklaw29.TokenTexts'. -/
def tokenTextsCard : Claim7 := { stood := { row := tokenTextsRow, standIns := [], harness := (true, "04768387b21e2525acafbaaeae3534ab3438b5d542c0a5b77d43531e1eb32e5b"), looks := false }, kinds := [], alts := [], laidByText := true, laidKinds := [.data, .pinned], laidTests := true, laidLooks := .later }
def TokenTextsCardSaid : Prop := Claim7.holds Tryz.pinned (.plain (OpenSpec.ofChange tokenTextsSpec)) tokenTextsCard

/-- THE TIED CARD OF 'padlocklaw29.TokenLoads'. -/
def tokenLoadsCard : Claim7 := { stood := { row := tokenLoadsRow, standIns := [], harness := (true, "04768387b21e2525acafbaaeae3534ab3438b5d542c0a5b77d43531e1eb32e5b"), looks := false }, kinds := [], alts := [], laidByText := true, laidKinds := [.data, .pinned], laidTests := true, laidLooks := .later }
def TokenLoadsCardSaid : Prop := Claim7.holds Tryz.pinned (.plain (OpenSpec.ofChange tokenLoadsSpec)) tokenLoadsCard

/-- THE SECOND FORM's CARD OF 'padlocklaw29.TokenDoes'. -/
def tokenDoesUptoCard : Claim7 := { stood := { row := tokenDoesUptoRow, standIns := [], harness := (true, "04768387b21e2525acafbaaeae3534ab3438b5d542c0a5b77d43531e1eb32e5b"), looks := false }, kinds := [], alts := [], laidByText := true, laidKinds := [.data, .pinned], laidTests := true, laidLooks := .later }
def TokenDoesUptoCardSaid : Prop := Claim7.holds Tryz.pinned (.plain (OpenSpec.upto tokenDoesSpec)) tokenDoesUptoCard

/-- THE SECOND FORM's CARD OF 'padlocklaw29.TokenNever'. -/
def tokenNeverUptoCard : Claim7 := { stood := { row := tokenNeverUptoRow, standIns := [], harness := (true, "04768387b21e2525acafbaaeae3534ab3438b5d542c0a5b77d43531e1eb32e5b"), looks := false }, kinds := [], alts := [], laidByText := true, laidKinds := [.data, .pinned], laidTests := true, laidLooks := .later }
def TokenNeverUptoCardSaid : Prop := Claim7.holds Tryz.pinned (.plain (OpenSpec.upto tokenNeverSpec)) tokenNeverUptoCard

/-- THE SECOND FORM's CARD OF 'padlocklaw29.TokenRevokes'. -/
def tokenRevokesUptoCard : Claim7 := { stood := { row := tokenRevokesUptoRow, standIns := [], harness := (true, "04768387b21e2525acafbaaeae3534ab3438b5d542c0a5b77d43531e1eb32e5b"), looks := false }, kinds := [], alts := [], laidByText := true, laidKinds := [.data, .pinned], laidTests := true, laidLooks := .later }
def TokenRevokesUptoCardSaid : Prop := Claim7.holds Tryz.pinned (.plain (OpenSpec.upto tokenRevokesSpec)) tokenRevokesUptoCard

/-- THE SECOND FORM's CARD OF 'padlocklaw29.TokenTexts'. -/
def tokenTextsUptoCard : Claim7 := { stood := { row := tokenTextsUptoRow, standIns := [], harness := (true, "04768387b21e2525acafbaaeae3534ab3438b5d542c0a5b77d43531e1eb32e5b"), looks := false }, kinds := [], alts := [], laidByText := true, laidKinds := [.data, .pinned], laidTests := true, laidLooks := .later }
def TokenTextsUptoCardSaid : Prop := Claim7.holds Tryz.pinned (.plain (OpenSpec.upto tokenTextsSpec)) tokenTextsUptoCard

/-- THE SECOND FORM's CARD OF 'padlocklaw29.TokenLoads'. -/
def tokenLoadsUptoCard : Claim7 := { stood := { row := tokenLoadsUptoRow, standIns := [], harness := (true, "04768387b21e2525acafbaaeae3534ab3438b5d542c0a5b77d43531e1eb32e5b"), looks := false }, kinds := [], alts := [], laidByText := true, laidKinds := [.data, .pinned], laidTests := true, laidLooks := .later }
def TokenLoadsUptoCardSaid : Prop := Claim7.holds Tryz.pinned (.plain (OpenSpec.upto tokenLoadsSpec)) tokenLoadsUptoCard
end Rows
end Go.Proofs.YtlgmdlckjinfcaaGreatDoor
