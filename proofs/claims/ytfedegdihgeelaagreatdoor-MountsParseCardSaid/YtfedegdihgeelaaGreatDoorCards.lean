/-
  DERIVED. GIVEN WITH THE SEED: THE CARDS: each row of YtfedegdihgeelaaGreatDoorRows.lean that lists a variable, with what it lists TIED to the program's text (the seventh form; the later family's looks); each row that meets fmt, with fmt's text TOLD by the authors' own Lean function (tested against real Go, not proved from fmt's source: count such statements apart). THE CARD IS WHAT COUNTS. Prove the row's statement (the work); the ties are given (YtfedegdihgeelaaGreatDoorTie.lean); close each card by the builder's one call (the guide's Derived/Test/ToyasCard.lean, 'card_holds'). Laid BY PROGRAM, IN A SANDBOX (cutbox-door.mjs). By AI agents, Wed Nov 11 2026. No macro, syntax, notation, axiom, sorry.
-/
import Derived.Test.YtfedegdihgeelaaGreatDoorRows
import GoSem.ClaimSeven
namespace Go.Proofs.YtfedegdihgeelaaGreatDoor
namespace Rows

/-- THE TIED CARD OF 'padlocklaw30.MountsDo'. -/
def mountsDoCard : Claim7 := { stood := { row := mountsDoRow, standIns := [], harness := (true, "9c773b8ddc258b0036a0a53e5e91e7f20deb2bc690116f2dc1518cfbab8fe1c2"), looks := false }, kinds := [], alts := [], laidByText := true, laidKinds := [.data, .pinned], laidTests := true, laidLooks := .later }
def MountsDoCardSaid : Prop := Claim7.holds Tryz.pinned (.plain (OpenSpec.ofChange mountsDoSpec)) mountsDoCard

/-- THE TIED CARD OF 'padlocklaw30.MountsParse'. -/
def mountsParseCard : Claim7 := { stood := { row := mountsParseRow, standIns := [], harness := (true, "9c773b8ddc258b0036a0a53e5e91e7f20deb2bc690116f2dc1518cfbab8fe1c2"), looks := false }, kinds := [], alts := [], laidByText := true, laidKinds := [.data, .pinned], laidTests := true, laidLooks := .later }
def MountsParseCardSaid : Prop := Claim7.holds Tryz.pinned (.plain (OpenSpec.ofChange mountsParseSpec)) mountsParseCard

/-- THE SECOND FORM's CARD OF 'padlocklaw30.MountsDo'. -/
def mountsDoUptoCard : Claim7 := { stood := { row := mountsDoUptoRow, standIns := [], harness := (true, "9c773b8ddc258b0036a0a53e5e91e7f20deb2bc690116f2dc1518cfbab8fe1c2"), looks := false }, kinds := [], alts := [], laidByText := true, laidKinds := [.data, .pinned], laidTests := true, laidLooks := .later }
def MountsDoUptoCardSaid : Prop := Claim7.holds Tryz.pinned (.plain (OpenSpec.upto mountsDoSpec)) mountsDoUptoCard

/-- THE SECOND FORM's CARD OF 'padlocklaw30.MountsParse'. -/
def mountsParseUptoCard : Claim7 := { stood := { row := mountsParseUptoRow, standIns := [], harness := (true, "9c773b8ddc258b0036a0a53e5e91e7f20deb2bc690116f2dc1518cfbab8fe1c2"), looks := false }, kinds := [], alts := [], laidByText := true, laidKinds := [.data, .pinned], laidTests := true, laidLooks := .later }
def MountsParseUptoCardSaid : Prop := Claim7.holds Tryz.pinned (.plain (OpenSpec.upto mountsParseSpec)) mountsParseUptoCard
end Rows
end Go.Proofs.YtfedegdihgeelaaGreatDoor
