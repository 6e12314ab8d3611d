/-
  DERIVED. GIVEN WITH THE SEED: THE CARDS: each row of YtfdappjogpngiaaDoorRows.lean that lists a variable, with what it lists TIED to the program's text (the seventh form; the later family's looks); each row that meets fmt, with fmt's text TOLD by the authors' own Lean function (tested against real Go, not proved from fmt's source: count such statements apart). THE CARD IS WHAT COUNTS. Prove the row's statement (the work); the ties are given (YtfdappjogpngiaaDoorTie.lean); close each card by the builder's one call (the guide's Derived/Test/ToyasCard.lean, 'card_holds'). Laid BY PROGRAM, IN A SANDBOX (cutbox-door.mjs). By AI agents, Wed Nov 11 2026. No macro, syntax, notation, axiom, sorry.
-/
import Derived.Test.YtfdappjogpngiaaDoorRows
import GoSem.ClaimSeven
namespace Go.Proofs.YtfdappjogpngiaaDoor
namespace Rows

/-- THE TIED CARD OF 'padlocklaw27.RowsKeys'. -/
def rowsKeysCard : Claim7 := { stood := { row := rowsKeysRow, standIns := [], harness := (true, "a0f7c428ee6edc194e5cfdc370b6c77a7502258675d0502cb5836b9b6bc6875c"), looks := false }, kinds := [], alts := [], laidByText := true, laidKinds := [.data, .pinned], laidTests := true, laidLooks := .later }
def RowsKeysCardSaid : Prop := Claim7.holds Tryd.pinned (.plain (OpenSpec.ofChange rowsKeysSpec)) rowsKeysCard

/-- THE TIED CARD OF 'padlocklaw27.RowsPack'. -/
def rowsPackCard : Claim7 := { stood := { row := rowsPackRow, standIns := [], harness := (true, "a0f7c428ee6edc194e5cfdc370b6c77a7502258675d0502cb5836b9b6bc6875c"), looks := false }, kinds := [], alts := [], laidByText := true, laidKinds := [.data, .pinned], laidTests := true, laidLooks := .later }
def RowsPackCardSaid : Prop := Claim7.holds Tryd.pinned (.plain (OpenSpec.ofChange rowsPackSpec)) rowsPackCard

/-- THE TIED CARD OF 'padlocklaw27.RowsApart'. -/
def rowsApartCard : Claim7 := { stood := { row := rowsApartRow, standIns := [], harness := (true, "a0f7c428ee6edc194e5cfdc370b6c77a7502258675d0502cb5836b9b6bc6875c"), looks := false }, kinds := [], alts := [], laidByText := true, laidKinds := [.data, .pinned], laidTests := true, laidLooks := .later }
def RowsApartCardSaid : Prop := Claim7.holds Tryd.pinned (.plain (OpenSpec.ofChange rowsApartSpec)) rowsApartCard

/-- THE TIED CARD OF 'padlocklaw27.RowsUnder'. -/
def rowsUnderCard : Claim7 := { stood := { row := rowsUnderRow, standIns := [], harness := (true, "a0f7c428ee6edc194e5cfdc370b6c77a7502258675d0502cb5836b9b6bc6875c"), looks := false }, kinds := [], alts := [], laidByText := true, laidKinds := [.data, .pinned], laidTests := true, laidLooks := .later }
def RowsUnderCardSaid : Prop := Claim7.holds Tryd.pinned (.plain (OpenSpec.ofChange rowsUnderSpec)) rowsUnderCard

/-- THE SECOND FORM's CARD OF 'padlocklaw27.RowsKeys'. -/
def rowsKeysUptoCard : Claim7 := { stood := { row := rowsKeysUptoRow, standIns := [], harness := (true, "a0f7c428ee6edc194e5cfdc370b6c77a7502258675d0502cb5836b9b6bc6875c"), looks := false }, kinds := [], alts := [], laidByText := true, laidKinds := [.data, .pinned], laidTests := true, laidLooks := .later }
def RowsKeysUptoCardSaid : Prop := Claim7.holds Tryd.pinned (.plain (OpenSpec.upto rowsKeysSpec)) rowsKeysUptoCard

/-- THE SECOND FORM's CARD OF 'padlocklaw27.RowsPack'. -/
def rowsPackUptoCard : Claim7 := { stood := { row := rowsPackUptoRow, standIns := [], harness := (true, "a0f7c428ee6edc194e5cfdc370b6c77a7502258675d0502cb5836b9b6bc6875c"), looks := false }, kinds := [], alts := [], laidByText := true, laidKinds := [.data, .pinned], laidTests := true, laidLooks := .later }
def RowsPackUptoCardSaid : Prop := Claim7.holds Tryd.pinned (.plain (OpenSpec.upto rowsPackSpec)) rowsPackUptoCard

/-- THE SECOND FORM's CARD OF 'padlocklaw27.RowsApart'. -/
def rowsApartUptoCard : Claim7 := { stood := { row := rowsApartUptoRow, standIns := [], harness := (true, "a0f7c428ee6edc194e5cfdc370b6c77a7502258675d0502cb5836b9b6bc6875c"), looks := false }, kinds := [], alts := [], laidByText := true, laidKinds := [.data, .pinned], laidTests := true, laidLooks := .later }
def RowsApartUptoCardSaid : Prop := Claim7.holds Tryd.pinned (.plain (OpenSpec.upto rowsApartSpec)) rowsApartUptoCard

/-- THE SECOND FORM's CARD OF 'padlocklaw27.RowsUnder'. -/
def rowsUnderUptoCard : Claim7 := { stood := { row := rowsUnderUptoRow, standIns := [], harness := (true, "a0f7c428ee6edc194e5cfdc370b6c77a7502258675d0502cb5836b9b6bc6875c"), looks := false }, kinds := [], alts := [], laidByText := true, laidKinds := [.data, .pinned], laidTests := true, laidLooks := .later }
def RowsUnderUptoCardSaid : Prop := Claim7.holds Tryd.pinned (.plain (OpenSpec.upto rowsUnderSpec)) rowsUnderUptoCard
end Rows
end Go.Proofs.YtfdappjogpngiaaDoor
