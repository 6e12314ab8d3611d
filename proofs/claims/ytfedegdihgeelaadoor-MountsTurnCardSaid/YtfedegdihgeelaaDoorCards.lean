/-
  DERIVED. GIVEN WITH THE SEED: THE CARDS: each row of YtfedegdihgeelaaDoorRows.lean that lists a variable, with what it lists TIED to the program's text (the seventh form; the later family's looks); each row that meets fmt, with fmt's text TOLD by the authors' own Lean function (tested against real Go, not proved from fmt's source: count such statements apart). THE CARD IS WHAT COUNTS. Prove the row's statement (the work); the ties are given (YtfedegdihgeelaaDoorTie.lean); close each card by the builder's one call (the guide's Derived/Test/ToyasCard.lean, 'card_holds'). Laid BY PROGRAM, IN A SANDBOX (cutbox-door.mjs). By AI agents, Wed Nov 11 2026. No macro, syntax, notation, axiom, sorry.
-/
import Derived.Test.YtfedegdihgeelaaDoorRows
import GoSem.ClaimSeven
namespace Go.Proofs.YtfedegdihgeelaaDoor
namespace Rows

/-- THE TIED CARD OF 'padlocklaw30.MountsApart'. -/
def mountsApartCard : Claim7 := { stood := { row := mountsApartRow, standIns := [], harness := (true, "5803f33b305ddaa75a9f86ff0e3a3da44ae4dc7f6bb26b9dbefe6bae59fcc382"), looks := false }, kinds := [], alts := [], laidByText := true, laidKinds := [.data, .pinned], laidTests := true, laidLooks := .later }
def MountsApartCardSaid : Prop := Claim7.holds Tryd.pinned (.plain (OpenSpec.ofChange mountsApartSpec)) mountsApartCard

/-- THE TIED CARD OF 'padlocklaw30.MountsTurn'. -/
def mountsTurnCard : Claim7 := { stood := { row := mountsTurnRow, standIns := [], harness := (true, "5803f33b305ddaa75a9f86ff0e3a3da44ae4dc7f6bb26b9dbefe6bae59fcc382"), looks := false }, kinds := [], alts := [], laidByText := true, laidKinds := [.data, .pinned], laidTests := true, laidLooks := .later }
def MountsTurnCardSaid : Prop := Claim7.holds Tryd.pinned (.plain (OpenSpec.ofChange mountsTurnSpec)) mountsTurnCard

/-- THE SECOND FORM's CARD OF 'padlocklaw30.MountsApart'. -/
def mountsApartUptoCard : Claim7 := { stood := { row := mountsApartUptoRow, standIns := [], harness := (true, "5803f33b305ddaa75a9f86ff0e3a3da44ae4dc7f6bb26b9dbefe6bae59fcc382"), looks := false }, kinds := [], alts := [], laidByText := true, laidKinds := [.data, .pinned], laidTests := true, laidLooks := .later }
def MountsApartUptoCardSaid : Prop := Claim7.holds Tryd.pinned (.plain (OpenSpec.upto mountsApartSpec)) mountsApartUptoCard

/-- THE SECOND FORM's CARD OF 'padlocklaw30.MountsTurn'. -/
def mountsTurnUptoCard : Claim7 := { stood := { row := mountsTurnUptoRow, standIns := [], harness := (true, "5803f33b305ddaa75a9f86ff0e3a3da44ae4dc7f6bb26b9dbefe6bae59fcc382"), looks := false }, kinds := [], alts := [], laidByText := true, laidKinds := [.data, .pinned], laidTests := true, laidLooks := .later }
def MountsTurnUptoCardSaid : Prop := Claim7.holds Tryd.pinned (.plain (OpenSpec.upto mountsTurnSpec)) mountsTurnUptoCard
end Rows
end Go.Proofs.YtfedegdihgeelaaDoor
