/-
  NARROWER THAN 'FOR EVERY INPUT', by the rows' own cells (each row's printed sentence says how): TokenDoes: laid · TokenNever: laid · TokenRevokes: laid · TokenTexts: laid · TokenLoads: laid.
  DERIVED. THE GIVEN ROWS OF THIS SEAT. 5 by the template 'for every input the law returns true; each argument reads behind the call as it read before'; 0 by the template 'total and deterministic' (their statements: YtlgmdlckjinfcaaGreatDoorTotals.lean).
  GIVEN WITH THE SEED: the statements are not yours to turn. If you find one false, say at which input.
  Laid BY PROGRAM, IN A SANDBOX (cutbox-rows.mjs): the forced cells as the released guide's own fill.sh prints them over the translation b6b52512f8dda531… (all of the seat's roots in one cut). By AI agents, Wed Nov 11 2026. No macro, syntax, notation, axiom, sorry.
-/
import Derived.Test.YtlgmdlckjinfcaaGreatDoorChecked
import GoSem.PinnedTables
import GoSem.Claim
import GoSem.ClaimJoined
import GoSem.ClaimMapViews
import Derived.JoinedTies
import Derived.KernelRfl
namespace Go.Proofs.YtlgmdlckjinfcaaGreatDoor
/- THE CELL 'sum', in the pinned program and in every row, IS THE sha256 OF THE DUMP (.gsa) THAT YtlgmdlckjinfcaaGreatDoorProg.lean LOADS. Nothing in Lean hashes anything: it is a label: what it is worth is what the hold of that sum in a sandbox is worth. -/
noncomputable def Tryz.pinned : Pinned := { name := "ytlgmdlckjinfcaagreatdoor", sum := "b6b52512f8dda53175b7028c85a3034dc8854396127f20583e2023be989f7195", checked := Tryz.checked }
namespace Rows
def none {H : Type} : Left H := { results := [], args := [] }

/- WHAT THE LISTED PACKAGE-LEVEL VARIABLES READ AS WHEN THE CALL BEGINS. Each datum BY PROGRAM (the guide's laid-datum.mjs) off the statement by which the dump's own 'gosem.cut.vars' lays the variable. In a bare row this is a premise. The card (YtlgmdlckjinfcaaGreatDoorCards.lean) ties it to the program's text. -/
def laid_unicode_utf8_acceptRanges {H : Type} : DataW H := .agg [.agg [.lit (.int .u8 128), .lit (.int .u8 191)], .agg [.lit (.int .u8 160), .lit (.int .u8 191)], .agg [.lit (.int .u8 128), .lit (.int .u8 159)], .agg [.lit (.int .u8 144), .lit (.int .u8 191)], .agg [.lit (.int .u8 128), .lit (.int .u8 143)], .agg [.lit (.int .u8 0), .lit (.int .u8 0)], .agg [.lit (.int .u8 0), .lit (.int .u8 0)], .agg [.lit (.int .u8 0), .lit (.int .u8 0)], .agg [.lit (.int .u8 0), .lit (.int .u8 0)], .agg [.lit (.int .u8 0), .lit (.int .u8 0)], .agg [.lit (.int .u8 0), .lit (.int .u8 0)], .agg [.lit (.int .u8 0), .lit (.int .u8 0)], .agg [.lit (.int .u8 0), .lit (.int .u8 0)], .agg [.lit (.int .u8 0), .lit (.int .u8 0)], .agg [.lit (.int .u8 0), .lit (.int .u8 0)], .agg [.lit (.int .u8 0), .lit (.int .u8 0)]]
/-- One of Go's own tables, pinned by name: the form's constant. -/
def laid_unicode_utf8_first : DataW Unit := Go.Pinned.utf8First

/-- 'padlocklaw29.TokenDoes': WHATEVER THE INPUT: true; the input reads as it did. -/
def tokenDoesSpec : ChangeSpec := { name := "tokenDoes", fn := fun _ => fun
  | [d1, d2] => { results := [.lit (.bool true)], args := [d1, d2] }
  | _ => none }
def tokenDoesRow : OpenClaim := { program := "ytlgmdlckjinfcaagreatdoor", sum := "b6b52512f8dda53175b7028c85a3034dc8854396127f20583e2023be989f7195", func := "padlock/padlocklaw29.TokenDoes", spec := "tokenDoes", inPlace := ["internal/bytealg.CountString", "internal/bytealg.IndexByteString", "internal/bytealg.IndexString", "internal/abi.NoEscape", "internal/bytealg.MakeNoZero"], unfollowed := true, recurses := true, named := ["unicode/utf8.first", "unicode/utf8.acceptRanges", "internal/bytealg.MaxLen"], apart := false, laid := [("unicode/utf8.acceptRanges", laid_unicode_utf8_acceptRanges), ("unicode/utf8.first", laid_unicode_utf8_first)] }
def TokenDoesSaid : Prop := tokenDoesRow.holds Tryz.pinned (OpenSpec.ofChange tokenDoesSpec)

/-- ITS FALSE NEIGHBOUR: 'it returns false'. Refute it at one input. -/
def tokenDoesWrong : ChangeSpec := { name := "tokenDoes", fn := fun _ => fun
  | [d1, d2] => { results := [.lit (.bool false)], args := [d1, d2] }
  | _ => none }
def TokenDoesWrongFalsely : Prop := tokenDoesRow.holds Tryz.pinned (OpenSpec.ofChange tokenDoesWrong)

/-- 'padlocklaw29.TokenNever': WHATEVER THE INPUT: true; the input reads as it did. -/
def tokenNeverSpec : ChangeSpec := { name := "tokenNever", fn := fun _ => fun
  | [d1, d2] => { results := [.lit (.bool true)], args := [d1, d2] }
  | _ => none }
def tokenNeverRow : OpenClaim := { program := "ytlgmdlckjinfcaagreatdoor", sum := "b6b52512f8dda53175b7028c85a3034dc8854396127f20583e2023be989f7195", func := "padlock/padlocklaw29.TokenNever", spec := "tokenNever", inPlace := ["internal/bytealg.CountString", "internal/bytealg.IndexByteString", "internal/bytealg.IndexString", "internal/abi.NoEscape", "internal/bytealg.MakeNoZero"], unfollowed := true, recurses := true, named := ["unicode/utf8.first", "unicode/utf8.acceptRanges", "internal/bytealg.MaxLen"], apart := false, laid := [("unicode/utf8.acceptRanges", laid_unicode_utf8_acceptRanges), ("unicode/utf8.first", laid_unicode_utf8_first)] }
def TokenNeverSaid : Prop := tokenNeverRow.holds Tryz.pinned (OpenSpec.ofChange tokenNeverSpec)

/-- ITS FALSE NEIGHBOUR: 'it returns false'. Refute it at one input. -/
def tokenNeverWrong : ChangeSpec := { name := "tokenNever", fn := fun _ => fun
  | [d1, d2] => { results := [.lit (.bool false)], args := [d1, d2] }
  | _ => none }
def TokenNeverWrongFalsely : Prop := tokenNeverRow.holds Tryz.pinned (OpenSpec.ofChange tokenNeverWrong)

/-- 'padlocklaw29.TokenRevokes': WHATEVER THE INPUT: true; the input reads as it did. -/
def tokenRevokesSpec : ChangeSpec := { name := "tokenRevokes", fn := fun _ => fun
  | [d1, d2] => { results := [.lit (.bool true)], args := [d1, d2] }
  | _ => none }
def tokenRevokesRow : OpenClaim := { program := "ytlgmdlckjinfcaagreatdoor", sum := "b6b52512f8dda53175b7028c85a3034dc8854396127f20583e2023be989f7195", func := "padlock/padlocklaw29.TokenRevokes", spec := "tokenRevokes", inPlace := ["internal/bytealg.CountString", "internal/bytealg.IndexByteString", "internal/bytealg.IndexString", "internal/abi.NoEscape", "internal/bytealg.MakeNoZero"], unfollowed := true, recurses := true, named := ["unicode/utf8.first", "unicode/utf8.acceptRanges", "internal/bytealg.MaxLen"], apart := false, laid := [("unicode/utf8.acceptRanges", laid_unicode_utf8_acceptRanges), ("unicode/utf8.first", laid_unicode_utf8_first)] }
def TokenRevokesSaid : Prop := tokenRevokesRow.holds Tryz.pinned (OpenSpec.ofChange tokenRevokesSpec)

/-- ITS FALSE NEIGHBOUR: 'it returns false'. Refute it at one input. -/
def tokenRevokesWrong : ChangeSpec := { name := "tokenRevokes", fn := fun _ => fun
  | [d1, d2] => { results := [.lit (.bool false)], args := [d1, d2] }
  | _ => none }
def TokenRevokesWrongFalsely : Prop := tokenRevokesRow.holds Tryz.pinned (OpenSpec.ofChange tokenRevokesWrong)

/-- 'padlocklaw29.TokenTexts': WHATEVER THE INPUT: true; the input reads as it did. -/
def tokenTextsSpec : ChangeSpec := { name := "tokenTexts", fn := fun _ => fun
  | [d1, d2, d3] => { results := [.lit (.bool true)], args := [d1, d2, d3] }
  | _ => none }
def tokenTextsRow : OpenClaim := { program := "ytlgmdlckjinfcaagreatdoor", sum := "b6b52512f8dda53175b7028c85a3034dc8854396127f20583e2023be989f7195", func := "padlock/padlocklaw29.TokenTexts", spec := "tokenTexts", inPlace := ["internal/bytealg.CountString", "internal/bytealg.IndexByteString", "internal/bytealg.IndexString", "internal/abi.NoEscape", "internal/bytealg.MakeNoZero"], unfollowed := true, recurses := true, named := ["unicode/utf8.first", "unicode/utf8.acceptRanges", "internal/bytealg.MaxLen"], apart := false, laid := [("unicode/utf8.acceptRanges", laid_unicode_utf8_acceptRanges), ("unicode/utf8.first", laid_unicode_utf8_first)] }
def TokenTextsSaid : Prop := tokenTextsRow.holds Tryz.pinned (OpenSpec.ofChange tokenTextsSpec)

/-- ITS FALSE NEIGHBOUR: 'it returns false'. Refute it at one input. -/
def tokenTextsWrong : ChangeSpec := { name := "tokenTexts", fn := fun _ => fun
  | [d1, d2, d3] => { results := [.lit (.bool false)], args := [d1, d2, d3] }
  | _ => none }
def TokenTextsWrongFalsely : Prop := tokenTextsRow.holds Tryz.pinned (OpenSpec.ofChange tokenTextsWrong)

/-- 'padlocklaw29.TokenLoads': WHATEVER THE INPUT: true; the input reads as it did. -/
def tokenLoadsSpec : ChangeSpec := { name := "tokenLoads", fn := fun _ => fun
  | [d1, d2] => { results := [.lit (.bool true)], args := [d1, d2] }
  | _ => none }
def tokenLoadsRow : OpenClaim := { program := "ytlgmdlckjinfcaagreatdoor", sum := "b6b52512f8dda53175b7028c85a3034dc8854396127f20583e2023be989f7195", func := "padlock/padlocklaw29.TokenLoads", spec := "tokenLoads", inPlace := ["internal/bytealg.CountString", "internal/bytealg.IndexByteString", "internal/bytealg.IndexString", "internal/abi.NoEscape", "internal/bytealg.MakeNoZero"], unfollowed := true, recurses := true, named := ["unicode/utf8.first", "unicode/utf8.acceptRanges", "internal/bytealg.MaxLen"], apart := false, laid := [("unicode/utf8.acceptRanges", laid_unicode_utf8_acceptRanges), ("unicode/utf8.first", laid_unicode_utf8_first)] }
def TokenLoadsSaid : Prop := tokenLoadsRow.holds Tryz.pinned (OpenSpec.ofChange tokenLoadsSpec)

/-- ITS FALSE NEIGHBOUR: 'it returns false'. Refute it at one input. -/
def tokenLoadsWrong : ChangeSpec := { name := "tokenLoads", fn := fun _ => fun
  | [d1, d2] => { results := [.lit (.bool false)], args := [d1, d2] }
  | _ => none }
def TokenLoadsWrongFalsely : Prop := tokenLoadsRow.holds Tryz.pinned (OpenSpec.ofChange tokenLoadsWrong)

/- THE SECOND FORM. 'bulk': how many values and letters a reading holds, each counted each time it is reached (what is shared counts as often as it is met; a slice's spare places count too). A statement '..UptoSaid' is the law's where the arguments, and the package variables that the reading takes, are together of bulk at most 1048576: NARROWER than '..Said'. Prove '..Said' where nothing that the law and all that it calls make is longer than what came in: it says more and counts as full. Else prove '..UptoSaid'. A law counts once. -/
mutual
def uptoBulk {H : Type} : DataW H → Nat
  | .lit (.string bytes) => bytes.length + 1
  | .lit _ => 1
  | .nil => 1
  | .ptr d => uptoBulk d + 1
  | .slice elems spare => uptoBulkAll elems + uptoBulkAll spare + 1
  | .agg parts => uptoBulkAll parts + 1
  | .iface _ d => uptoBulk d + 1
  | .map entries => uptoBulkEntries entries + 1
  | .held _ => 1
def uptoBulkAll {H : Type} : List (DataW H) → Nat
  | [] => 0
  | d :: r => uptoBulk d + uptoBulkAll r
def uptoBulkEntries {H : Type} : List (Lit × DataW H) → Nat
  | [] => 0
  | x :: r => uptoBulkEntry x + uptoBulkEntries r
def uptoBulkEntry {H : Type} : Lit × DataW H → Nat
  | (.string bytes, d) => bytes.length + uptoBulk d + 1
  | (_, d) => uptoBulk d + 1
 end
def uptoSmall : (H : Type) → List (DataW H) → Bool := fun _ ds => decide (uptoBulkAll ds ≤ 1048576)
def OpenSpec.upto (s : _root_.Go.ChangeSpec) : _root_.Go.OpenSpec := { _root_.Go.OpenSpec.ofChange s with cond := some uptoSmall }

/-- 'padlocklaw29.TokenDoes', WHERE WHAT IT READS IS OF BULK AT MOST 1048576: true; the input reads as it did. -/
def tokenDoesUptoRow : OpenClaim := { program := "ytlgmdlckjinfcaagreatdoor", sum := "b6b52512f8dda53175b7028c85a3034dc8854396127f20583e2023be989f7195", func := "padlock/padlocklaw29.TokenDoes", spec := "tokenDoes", inPlace := ["internal/bytealg.CountString", "internal/bytealg.IndexByteString", "internal/bytealg.IndexString", "internal/abi.NoEscape", "internal/bytealg.MakeNoZero"], unfollowed := true, recurses := true, named := ["unicode/utf8.first", "unicode/utf8.acceptRanges", "internal/bytealg.MaxLen"], apart := false, laid := [("unicode/utf8.acceptRanges", laid_unicode_utf8_acceptRanges), ("unicode/utf8.first", laid_unicode_utf8_first)], narrowed := true }
def TokenDoesUptoSaid : Prop := tokenDoesUptoRow.holds Tryz.pinned (OpenSpec.upto tokenDoesSpec)

/-- 'padlocklaw29.TokenNever', WHERE WHAT IT READS IS OF BULK AT MOST 1048576: true; the input reads as it did. -/
def tokenNeverUptoRow : OpenClaim := { program := "ytlgmdlckjinfcaagreatdoor", sum := "b6b52512f8dda53175b7028c85a3034dc8854396127f20583e2023be989f7195", func := "padlock/padlocklaw29.TokenNever", spec := "tokenNever", inPlace := ["internal/bytealg.CountString", "internal/bytealg.IndexByteString", "internal/bytealg.IndexString", "internal/abi.NoEscape", "internal/bytealg.MakeNoZero"], unfollowed := true, recurses := true, named := ["unicode/utf8.first", "unicode/utf8.acceptRanges", "internal/bytealg.MaxLen"], apart := false, laid := [("unicode/utf8.acceptRanges", laid_unicode_utf8_acceptRanges), ("unicode/utf8.first", laid_unicode_utf8_first)], narrowed := true }
def TokenNeverUptoSaid : Prop := tokenNeverUptoRow.holds Tryz.pinned (OpenSpec.upto tokenNeverSpec)

/-- 'padlocklaw29.TokenRevokes', WHERE WHAT IT READS IS OF BULK AT MOST 1048576: true; the input reads as it did. -/
def tokenRevokesUptoRow : OpenClaim := { program := "ytlgmdlckjinfcaagreatdoor", sum := "b6b52512f8dda53175b7028c85a3034dc8854396127f20583e2023be989f7195", func := "padlock/padlocklaw29.TokenRevokes", spec := "tokenRevokes", inPlace := ["internal/bytealg.CountString", "internal/bytealg.IndexByteString", "internal/bytealg.IndexString", "internal/abi.NoEscape", "internal/bytealg.MakeNoZero"], unfollowed := true, recurses := true, named := ["unicode/utf8.first", "unicode/utf8.acceptRanges", "internal/bytealg.MaxLen"], apart := false, laid := [("unicode/utf8.acceptRanges", laid_unicode_utf8_acceptRanges), ("unicode/utf8.first", laid_unicode_utf8_first)], narrowed := true }
def TokenRevokesUptoSaid : Prop := tokenRevokesUptoRow.holds Tryz.pinned (OpenSpec.upto tokenRevokesSpec)

/-- 'padlocklaw29.TokenTexts', WHERE WHAT IT READS IS OF BULK AT MOST 1048576: true; the input reads as it did. -/
def tokenTextsUptoRow : OpenClaim := { program := "ytlgmdlckjinfcaagreatdoor", sum := "b6b52512f8dda53175b7028c85a3034dc8854396127f20583e2023be989f7195", func := "padlock/padlocklaw29.TokenTexts", spec := "tokenTexts", inPlace := ["internal/bytealg.CountString", "internal/bytealg.IndexByteString", "internal/bytealg.IndexString", "internal/abi.NoEscape", "internal/bytealg.MakeNoZero"], unfollowed := true, recurses := true, named := ["unicode/utf8.first", "unicode/utf8.acceptRanges", "internal/bytealg.MaxLen"], apart := false, laid := [("unicode/utf8.acceptRanges", laid_unicode_utf8_acceptRanges), ("unicode/utf8.first", laid_unicode_utf8_first)], narrowed := true }
def TokenTextsUptoSaid : Prop := tokenTextsUptoRow.holds Tryz.pinned (OpenSpec.upto tokenTextsSpec)

/-- 'padlocklaw29.TokenLoads', WHERE WHAT IT READS IS OF BULK AT MOST 1048576: true; the input reads as it did. -/
def tokenLoadsUptoRow : OpenClaim := { program := "ytlgmdlckjinfcaagreatdoor", sum := "b6b52512f8dda53175b7028c85a3034dc8854396127f20583e2023be989f7195", func := "padlock/padlocklaw29.TokenLoads", spec := "tokenLoads", inPlace := ["internal/bytealg.CountString", "internal/bytealg.IndexByteString", "internal/bytealg.IndexString", "internal/abi.NoEscape", "internal/bytealg.MakeNoZero"], unfollowed := true, recurses := true, named := ["unicode/utf8.first", "unicode/utf8.acceptRanges", "internal/bytealg.MaxLen"], apart := false, laid := [("unicode/utf8.acceptRanges", laid_unicode_utf8_acceptRanges), ("unicode/utf8.first", laid_unicode_utf8_first)], narrowed := true }
def TokenLoadsUptoSaid : Prop := tokenLoadsUptoRow.holds Tryz.pinned (OpenSpec.upto tokenLoadsSpec)

end Rows
end Go.Proofs.YtlgmdlckjinfcaaGreatDoor
