/-
  DERIVED. GIVEN WITH THE SEED: THE CARDS: each row of YtkpgnlcjolmdlaaDoorRows.lean that lists a variable, with what it lists TIED to the program's text (the seventh form; the later family's looks); each row that meets fmt, with fmt's text TOLD by the authors' own Lean function (tested against real Go, not proved from fmt's source: count such statements apart). THE CARD IS WHAT COUNTS. Prove the row's statement (the work); the ties are given (YtkpgnlcjolmdlaaDoorTie.lean); close each card by the builder's one call (the guide's Derived/Test/ToyasCard.lean, 'card_holds'). Laid BY PROGRAM, IN A SANDBOX (cutbox-door.mjs). By AI agents, Wed Nov 11 2026. No macro, syntax, notation, axiom, sorry.
-/
import Derived.Test.YtkpgnlcjolmdlaaDoorRows
import GoSem.ClaimSeven
namespace Go.Proofs.YtkpgnlcjolmdlaaDoor
namespace Rows

/-- THE TIED CARD OF 'padlocklaw28.PolicyCaps'. -/
def policyCapsCard : Claim7 := { stood := { row := policyCapsRow, standIns := [], harness := (true, "601b24fe2716011152d0c57b2754d1e280a051caa96aefd703856b3505e2a42f"), looks := false }, kinds := [], alts := [], laidByText := true, laidKinds := [.data, .pinned], laidTests := true, laidLooks := .later }
def PolicyCapsCardSaid : Prop := Claim7.holds Tryd.pinned (.plain (OpenSpec.ofChange policyCapsSpec)) policyCapsCard

/-- THE TIED CARD OF 'padlocklaw28.PolicyTexts'. -/
def policyTextsCard : Claim7 := { stood := { row := policyTextsRow, standIns := [], harness := (true, "601b24fe2716011152d0c57b2754d1e280a051caa96aefd703856b3505e2a42f"), looks := false }, kinds := [], alts := [], laidByText := true, laidKinds := [.data, .pinned], laidTests := true, laidLooks := .later }
def PolicyTextsCardSaid : Prop := Claim7.holds Tryd.pinned (.plain (OpenSpec.ofChange policyTextsSpec)) policyTextsCard

/-- THE TIED CARD OF 'padlocklaw28.PolicyCovers'. -/
def policyCoversCard : Claim7 := { stood := { row := policyCoversRow, standIns := [], harness := (true, "601b24fe2716011152d0c57b2754d1e280a051caa96aefd703856b3505e2a42f"), looks := false }, kinds := [], alts := [], laidByText := true, laidKinds := [.data, .pinned], laidTests := true, laidLooks := .later }
def PolicyCoversCardSaid : Prop := Claim7.holds Tryd.pinned (.plain (OpenSpec.ofChange policyCoversSpec)) policyCoversCard

/-- THE TIED CARD OF 'padlocklaw28.PolicyBack'. -/
def policyBackCard : Claim7 := { stood := { row := policyBackRow, standIns := [], harness := (true, "601b24fe2716011152d0c57b2754d1e280a051caa96aefd703856b3505e2a42f"), looks := false }, kinds := [], alts := [], laidByText := true, laidKinds := [.data, .pinned], laidTests := true, laidLooks := .later }
def PolicyBackCardSaid : Prop := Claim7.holds Tryd.pinned (.plain (OpenSpec.ofChange policyBackSpec)) policyBackCard

/-- THE TIED CARD OF 'padlocklaw28.PolicyTurned'. -/
def policyTurnedCard : Claim7 := { stood := { row := policyTurnedRow, standIns := [], harness := (true, "601b24fe2716011152d0c57b2754d1e280a051caa96aefd703856b3505e2a42f"), looks := false }, kinds := [], alts := [], laidByText := true, laidKinds := [.data, .pinned], laidTests := true, laidLooks := .later }
def PolicyTurnedCardSaid : Prop := Claim7.holds Tryd.pinned (.plain (OpenSpec.ofChange policyTurnedSpec)) policyTurnedCard

/-- THE SECOND FORM's CARD OF 'padlocklaw28.PolicyCaps'. -/
def policyCapsUptoCard : Claim7 := { stood := { row := policyCapsUptoRow, standIns := [], harness := (true, "601b24fe2716011152d0c57b2754d1e280a051caa96aefd703856b3505e2a42f"), looks := false }, kinds := [], alts := [], laidByText := true, laidKinds := [.data, .pinned], laidTests := true, laidLooks := .later }
def PolicyCapsUptoCardSaid : Prop := Claim7.holds Tryd.pinned (.plain (OpenSpec.upto policyCapsSpec)) policyCapsUptoCard

/-- THE SECOND FORM's CARD OF 'padlocklaw28.PolicyTexts'. -/
def policyTextsUptoCard : Claim7 := { stood := { row := policyTextsUptoRow, standIns := [], harness := (true, "601b24fe2716011152d0c57b2754d1e280a051caa96aefd703856b3505e2a42f"), looks := false }, kinds := [], alts := [], laidByText := true, laidKinds := [.data, .pinned], laidTests := true, laidLooks := .later }
def PolicyTextsUptoCardSaid : Prop := Claim7.holds Tryd.pinned (.plain (OpenSpec.upto policyTextsSpec)) policyTextsUptoCard

/-- THE SECOND FORM's CARD OF 'padlocklaw28.PolicyCovers'. -/
def policyCoversUptoCard : Claim7 := { stood := { row := policyCoversUptoRow, standIns := [], harness := (true, "601b24fe2716011152d0c57b2754d1e280a051caa96aefd703856b3505e2a42f"), looks := false }, kinds := [], alts := [], laidByText := true, laidKinds := [.data, .pinned], laidTests := true, laidLooks := .later }
def PolicyCoversUptoCardSaid : Prop := Claim7.holds Tryd.pinned (.plain (OpenSpec.upto policyCoversSpec)) policyCoversUptoCard

/-- THE SECOND FORM's CARD OF 'padlocklaw28.PolicyBack'. -/
def policyBackUptoCard : Claim7 := { stood := { row := policyBackUptoRow, standIns := [], harness := (true, "601b24fe2716011152d0c57b2754d1e280a051caa96aefd703856b3505e2a42f"), looks := false }, kinds := [], alts := [], laidByText := true, laidKinds := [.data, .pinned], laidTests := true, laidLooks := .later }
def PolicyBackUptoCardSaid : Prop := Claim7.holds Tryd.pinned (.plain (OpenSpec.upto policyBackSpec)) policyBackUptoCard

/-- THE SECOND FORM's CARD OF 'padlocklaw28.PolicyTurned'. -/
def policyTurnedUptoCard : Claim7 := { stood := { row := policyTurnedUptoRow, standIns := [], harness := (true, "601b24fe2716011152d0c57b2754d1e280a051caa96aefd703856b3505e2a42f"), looks := false }, kinds := [], alts := [], laidByText := true, laidKinds := [.data, .pinned], laidTests := true, laidLooks := .later }
def PolicyTurnedUptoCardSaid : Prop := Claim7.holds Tryd.pinned (.plain (OpenSpec.upto policyTurnedSpec)) policyTurnedUptoCard
end Rows
end Go.Proofs.YtkpgnlcjolmdlaaDoor
