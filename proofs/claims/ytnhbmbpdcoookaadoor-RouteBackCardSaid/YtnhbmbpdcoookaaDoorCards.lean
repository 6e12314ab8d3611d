/-
  DERIVED. GIVEN WITH THE SEED: THE CARDS: each row of YtnhbmbpdcoookaaDoorRows.lean that lists a variable, with what it lists TIED to the program's text (the seventh form; the later family's looks); each row that meets fmt, with fmt's text TOLD by the authors' own Lean function (tested against real Go, not proved from fmt's source: count such statements apart). THE CARD IS WHAT COUNTS. Prove the row's statement (the work); the ties are given (YtnhbmbpdcoookaaDoorTie.lean); close each card by the builder's one call (the guide's Derived/Test/ToyasCard.lean, 'card_holds'). Laid BY PROGRAM, IN A SANDBOX (cutbox-door.mjs). By AI agents, Wed Nov 11 2026. No macro, syntax, notation, axiom, sorry.
-/
import Derived.Test.YtnhbmbpdcoookaaDoorRows
import GoSem.ClaimSeven
namespace Go.Proofs.YtnhbmbpdcoookaaDoor
namespace Rows

/-- THE TIED CARD OF 'padlocklaw04.RouteChecks'. -/
def routeChecksCard : Claim7 := { stood := { row := routeChecksRow, standIns := [], harness := (true, "b987a232b4eaefe1a5285abda48b4a2002d6b369de19384c8fb359bf86d58b28"), looks := false }, kinds := [], alts := [], laidByText := true, laidKinds := [.data, .pinned], laidTests := true, laidLooks := .later }
def RouteChecksCardSaid : Prop := Claim7.holds Tryd.pinned (.plain (OpenSpec.ofChange routeChecksSpec)) routeChecksCard

/-- THE TIED CARD OF 'padlocklaw04.RouteRunes'. -/
def routeRunesCard : Claim7 := { stood := { row := routeRunesRow, standIns := [], harness := (true, "b987a232b4eaefe1a5285abda48b4a2002d6b369de19384c8fb359bf86d58b28"), looks := false }, kinds := [], alts := [], laidByText := true, laidKinds := [.data, .pinned], laidTests := true, laidLooks := .later }
def RouteRunesCardSaid : Prop := Claim7.holds Tryd.pinned (.plain (OpenSpec.ofChange routeRunesSpec)) routeRunesCard

/-- THE TIED CARD OF 'padlocklaw04.RouteBack'. -/
def routeBackCard : Claim7 := { stood := { row := routeBackRow, standIns := [], harness := (true, "b987a232b4eaefe1a5285abda48b4a2002d6b369de19384c8fb359bf86d58b28"), looks := false }, kinds := [], alts := [], laidByText := true, laidKinds := [.data, .pinned], laidTests := true, laidLooks := .later }
def RouteBackCardSaid : Prop := Claim7.holds Tryd.pinned (.plain (OpenSpec.ofChange routeBackSpec)) routeBackCard

/-- THE TIED CARD OF 'padlocklaw04.RouteApart'. -/
def routeApartCard : Claim7 := { stood := { row := routeApartRow, standIns := [], harness := (true, "b987a232b4eaefe1a5285abda48b4a2002d6b369de19384c8fb359bf86d58b28"), looks := false }, kinds := [], alts := [], laidByText := true, laidKinds := [.data, .pinned], laidTests := true, laidLooks := .later }
def RouteApartCardSaid : Prop := Claim7.holds Tryd.pinned (.plain (OpenSpec.ofChange routeApartSpec)) routeApartCard

/-- THE SECOND FORM's CARD OF 'padlocklaw04.RouteChecks'. -/
def routeChecksUptoCard : Claim7 := { stood := { row := routeChecksUptoRow, standIns := [], harness := (true, "b987a232b4eaefe1a5285abda48b4a2002d6b369de19384c8fb359bf86d58b28"), looks := false }, kinds := [], alts := [], laidByText := true, laidKinds := [.data, .pinned], laidTests := true, laidLooks := .later }
def RouteChecksUptoCardSaid : Prop := Claim7.holds Tryd.pinned (.plain (OpenSpec.upto routeChecksSpec)) routeChecksUptoCard

/-- THE SECOND FORM's CARD OF 'padlocklaw04.RouteRunes'. -/
def routeRunesUptoCard : Claim7 := { stood := { row := routeRunesUptoRow, standIns := [], harness := (true, "b987a232b4eaefe1a5285abda48b4a2002d6b369de19384c8fb359bf86d58b28"), looks := false }, kinds := [], alts := [], laidByText := true, laidKinds := [.data, .pinned], laidTests := true, laidLooks := .later }
def RouteRunesUptoCardSaid : Prop := Claim7.holds Tryd.pinned (.plain (OpenSpec.upto routeRunesSpec)) routeRunesUptoCard

/-- THE SECOND FORM's CARD OF 'padlocklaw04.RouteBack'. -/
def routeBackUptoCard : Claim7 := { stood := { row := routeBackUptoRow, standIns := [], harness := (true, "b987a232b4eaefe1a5285abda48b4a2002d6b369de19384c8fb359bf86d58b28"), looks := false }, kinds := [], alts := [], laidByText := true, laidKinds := [.data, .pinned], laidTests := true, laidLooks := .later }
def RouteBackUptoCardSaid : Prop := Claim7.holds Tryd.pinned (.plain (OpenSpec.upto routeBackSpec)) routeBackUptoCard

/-- THE SECOND FORM's CARD OF 'padlocklaw04.RouteApart'. -/
def routeApartUptoCard : Claim7 := { stood := { row := routeApartUptoRow, standIns := [], harness := (true, "b987a232b4eaefe1a5285abda48b4a2002d6b369de19384c8fb359bf86d58b28"), looks := false }, kinds := [], alts := [], laidByText := true, laidKinds := [.data, .pinned], laidTests := true, laidLooks := .later }
def RouteApartUptoCardSaid : Prop := Claim7.holds Tryd.pinned (.plain (OpenSpec.upto routeApartSpec)) routeApartUptoCard
end Rows
end Go.Proofs.YtnhbmbpdcoookaaDoor
