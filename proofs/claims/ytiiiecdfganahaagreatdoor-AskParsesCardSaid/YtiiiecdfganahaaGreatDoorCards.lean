/-
  DERIVED. GIVEN WITH THE SEED: THE CARDS: each row of YtiiiecdfganahaaGreatDoorRows.lean that lists a variable, with what it lists TIED to the program's text (the seventh form; the later family's looks); each row that meets fmt, with fmt's text TOLD by the authors' own Lean function (tested against real Go, not proved from fmt's source: count such statements apart). THE CARD IS WHAT COUNTS. Prove the row's statement (the work); the ties are given (YtiiiecdfganahaaGreatDoorTie.lean); close each card by the builder's one call (the guide's Derived/Test/ToyasCard.lean, 'card_holds'). Laid BY PROGRAM, IN A SANDBOX (cutbox-door.mjs). By AI agents, Wed Nov 11 2026. No macro, syntax, notation, axiom, sorry.
-/
import Derived.Test.YtiiiecdfganahaaGreatDoorRows
import GoSem.ClaimSeven
namespace Go.Proofs.YtiiiecdfganahaaGreatDoor
namespace Rows

/-- THE TIED CARD OF 'padlocklaw31.AskTexts'. -/
def askTextsCard : Claim7 := { stood := { row := askTextsRow, standIns := [], harness := (true, "77208179a2141835dfff24c144c0b1bbff10507ed4744f54a0fb8660461a0b38"), looks := false }, kinds := [], alts := [], laidByText := true, laidKinds := [.data, .pinned], laidTests := true, laidLooks := .later }
def AskTextsCardSaid : Prop := Claim7.holds Tryz.pinned (.plain (OpenSpec.ofChange askTextsSpec)) askTextsCard

/-- THE TIED CARD OF 'padlocklaw31.AskParses'. -/
def askParsesCard : Claim7 := { stood := { row := askParsesRow, standIns := [], harness := (true, "77208179a2141835dfff24c144c0b1bbff10507ed4744f54a0fb8660461a0b38"), looks := false }, kinds := [], alts := [], laidByText := true, laidKinds := [.data, .pinned], laidTests := true, laidLooks := .later }
def AskParsesCardSaid : Prop := Claim7.holds Tryz.pinned (.plain (OpenSpec.ofChange askParsesSpec)) askParsesCard

/-- THE SECOND FORM's CARD OF 'padlocklaw31.AskTexts'. -/
def askTextsUptoCard : Claim7 := { stood := { row := askTextsUptoRow, standIns := [], harness := (true, "77208179a2141835dfff24c144c0b1bbff10507ed4744f54a0fb8660461a0b38"), looks := false }, kinds := [], alts := [], laidByText := true, laidKinds := [.data, .pinned], laidTests := true, laidLooks := .later }
def AskTextsUptoCardSaid : Prop := Claim7.holds Tryz.pinned (.plain (OpenSpec.upto askTextsSpec)) askTextsUptoCard

/-- THE SECOND FORM's CARD OF 'padlocklaw31.AskParses'. -/
def askParsesUptoCard : Claim7 := { stood := { row := askParsesUptoRow, standIns := [], harness := (true, "77208179a2141835dfff24c144c0b1bbff10507ed4744f54a0fb8660461a0b38"), looks := false }, kinds := [], alts := [], laidByText := true, laidKinds := [.data, .pinned], laidTests := true, laidLooks := .later }
def AskParsesUptoCardSaid : Prop := Claim7.holds Tryz.pinned (.plain (OpenSpec.upto askParsesSpec)) askParsesUptoCard
end Rows
end Go.Proofs.YtiiiecdfganahaaGreatDoor
