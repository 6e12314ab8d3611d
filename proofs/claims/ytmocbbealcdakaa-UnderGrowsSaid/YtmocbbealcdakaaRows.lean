/-
  No cell of these rows narrows 'for every input' (looked for: loops, veiled, ifaces, maps, wideKeys, modest, calm, conditions, laid).
  DERIVED. THE GIVEN ROWS OF THIS SEAT. 5 by the template 'for every input the law returns true; each argument reads behind the call as it read before'; 0 by the template 'total and deterministic' (their statements: YtmocbbealcdakaaTotals.lean).
  GIVEN WITH THE SEED: the statements are not yours to turn. If you find one false, say at which input.
  Laid BY PROGRAM, IN A SANDBOX (cutbox-rows.mjs): the forced cells as the released guide's own fill.sh prints them over the translation cad22293d33a79ba… (all of the seat's roots in one cut). By AI agents, Wed Nov 11 2026. No macro, syntax, notation, axiom, sorry.
-/
import Derived.Test.YtmocbbealcdakaaChecked
import GoSem.Claim
import GoSem.ClaimJoined
import GoSem.ClaimMapViews
import Derived.JoinedTies
import Derived.KernelRfl
namespace Go.Proofs.Ytmocbbealcdakaa
/- THE CELL 'sum', in the pinned program and in every row, IS THE sha256 OF THE DUMP (.gsa) THAT YtmocbbealcdakaaProg.lean LOADS. Nothing in Lean hashes anything: it is a label: what it is worth is what the hold of that sum in a sandbox is worth. -/
noncomputable def Try.pinned : Pinned := { name := "ytmocbbealcdakaa", sum := "cad22293d33a79ba2792c50420784d4f02554c567c37d9b05a2f32b756269254", checked := Try.checked }
namespace Rows
def none {H : Type} : Left H := { results := [], args := [] }

/-- 'padlocklaw05.UnderTells': WHATEVER THE INPUT: true; the input reads as it did. -/
def underTellsSpec : ChangeSpec := { name := "underTells", fn := fun _ => fun
  | [d1, d2] => { results := [.lit (.bool true)], args := [d1, d2] }
  | _ => none }
def underTellsRow : OpenClaim := { program := "ytmocbbealcdakaa", sum := "cad22293d33a79ba2792c50420784d4f02554c567c37d9b05a2f32b756269254", func := "padlock/padlocklaw05.UnderTells", spec := "underTells", inPlace := ["internal/bytealg.IndexByteString", "internal/bytealg.IndexString"], unfollowed := true, recurses := true, named := ["internal/bytealg.MaxLen"], apart := false }
def UnderTellsSaid : Prop := underTellsRow.holds Try.pinned (OpenSpec.ofChange underTellsSpec)

/-- ITS FALSE NEIGHBOUR: 'it returns false'. Refute it at one input. -/
def underTellsWrong : ChangeSpec := { name := "underTells", fn := fun _ => fun
  | [d1, d2] => { results := [.lit (.bool false)], args := [d1, d2] }
  | _ => none }
def UnderTellsWrongFalsely : Prop := underTellsRow.holds Try.pinned (OpenSpec.ofChange underTellsWrong)

/-- 'padlocklaw05.UnderLists': WHATEVER THE INPUT: true; the input reads as it did. -/
def underListsSpec : ChangeSpec := { name := "underLists", fn := fun _ => fun
  | [d1, d2] => { results := [.lit (.bool true)], args := [d1, d2] }
  | _ => none }
def underListsRow : OpenClaim := { program := "ytmocbbealcdakaa", sum := "cad22293d33a79ba2792c50420784d4f02554c567c37d9b05a2f32b756269254", func := "padlock/padlocklaw05.UnderLists", spec := "underLists", inPlace := ["internal/bytealg.IndexByteString", "internal/bytealg.IndexString"], unfollowed := true, recurses := true, named := ["internal/bytealg.MaxLen"], apart := false }
def UnderListsSaid : Prop := underListsRow.holds Try.pinned (OpenSpec.ofChange underListsSpec)

/-- ITS FALSE NEIGHBOUR: 'it returns false'. Refute it at one input. -/
def underListsWrong : ChangeSpec := { name := "underLists", fn := fun _ => fun
  | [d1, d2] => { results := [.lit (.bool false)], args := [d1, d2] }
  | _ => none }
def UnderListsWrongFalsely : Prop := underListsRow.holds Try.pinned (OpenSpec.ofChange underListsWrong)

/-- 'padlocklaw05.UnderOrder': WHATEVER THE INPUT: true; the input reads as it did. -/
def underOrderSpec : ChangeSpec := { name := "underOrder", fn := fun _ => fun
  | [d] => { results := [.lit (.bool true)], args := [d] }
  | _ => none }
def underOrderRow : OpenClaim := { program := "ytmocbbealcdakaa", sum := "cad22293d33a79ba2792c50420784d4f02554c567c37d9b05a2f32b756269254", func := "padlock/padlocklaw05.UnderOrder", spec := "underOrder", inPlace := ["internal/bytealg.IndexByteString", "internal/bytealg.IndexString"], unfollowed := true, recurses := true, named := ["internal/bytealg.MaxLen"], apart := false }
def UnderOrderSaid : Prop := underOrderRow.holds Try.pinned (OpenSpec.ofChange underOrderSpec)

/-- ITS FALSE NEIGHBOUR: 'it returns false'. Refute it at one input. -/
def underOrderWrong : ChangeSpec := { name := "underOrder", fn := fun _ => fun
  | [d] => { results := [.lit (.bool false)], args := [d] }
  | _ => none }
def UnderOrderWrongFalsely : Prop := underOrderRow.holds Try.pinned (OpenSpec.ofChange underOrderWrong)

/-- 'padlocklaw05.UnderMeets': WHATEVER THE INPUT: true; the input reads as it did. -/
def underMeetsSpec : ChangeSpec := { name := "underMeets", fn := fun _ => fun
  | [d] => { results := [.lit (.bool true)], args := [d] }
  | _ => none }
def underMeetsRow : OpenClaim := { program := "ytmocbbealcdakaa", sum := "cad22293d33a79ba2792c50420784d4f02554c567c37d9b05a2f32b756269254", func := "padlock/padlocklaw05.UnderMeets", spec := "underMeets", inPlace := ["internal/bytealg.IndexByteString", "internal/bytealg.IndexString"], unfollowed := true, recurses := true, named := ["internal/bytealg.MaxLen"], apart := false }
def UnderMeetsSaid : Prop := underMeetsRow.holds Try.pinned (OpenSpec.ofChange underMeetsSpec)

/-- ITS FALSE NEIGHBOUR: 'it returns false'. Refute it at one input. -/
def underMeetsWrong : ChangeSpec := { name := "underMeets", fn := fun _ => fun
  | [d] => { results := [.lit (.bool false)], args := [d] }
  | _ => none }
def UnderMeetsWrongFalsely : Prop := underMeetsRow.holds Try.pinned (OpenSpec.ofChange underMeetsWrong)

/-- 'padlocklaw05.UnderGrows': WHATEVER THE INPUT: true; the input reads as it did. -/
def underGrowsSpec : ChangeSpec := { name := "underGrows", fn := fun _ => fun
  | [d1, d2, d3] => { results := [.lit (.bool true)], args := [d1, d2, d3] }
  | _ => none }
def underGrowsRow : OpenClaim := { program := "ytmocbbealcdakaa", sum := "cad22293d33a79ba2792c50420784d4f02554c567c37d9b05a2f32b756269254", func := "padlock/padlocklaw05.UnderGrows", spec := "underGrows", inPlace := ["internal/bytealg.IndexByteString", "internal/bytealg.IndexString"], unfollowed := true, recurses := true, named := ["internal/bytealg.MaxLen"], apart := false }
def UnderGrowsSaid : Prop := underGrowsRow.holds Try.pinned (OpenSpec.ofChange underGrowsSpec)

/-- ITS FALSE NEIGHBOUR: 'it returns false'. Refute it at one input. -/
def underGrowsWrong : ChangeSpec := { name := "underGrows", fn := fun _ => fun
  | [d1, d2, d3] => { results := [.lit (.bool false)], args := [d1, d2, d3] }
  | _ => none }
def UnderGrowsWrongFalsely : Prop := underGrowsRow.holds Try.pinned (OpenSpec.ofChange underGrowsWrong)

/- THE SECOND FORM. 'bulk': how many values and letters a reading holds, each counted each time it is reached (what is shared counts as often as it is met; a slice's spare places count too). A statement '..UptoSaid' is the law's where the arguments, and the package variables that the reading takes, are together of bulk at most 1048576: NARROWER than '..Said'. Prove '..Said' where nothing that the law and all that it calls make is longer than what came in: it says more and counts as full. Else prove '..UptoSaid'. A law counts once. -/
mutual
def uptoBulk {H : Type} : DataW H → Nat
  | .lit (.string bytes) => bytes.length + 1
  | .lit _ => 1
  | .nil => 1
  | .ptr d => uptoBulk d + 1
  | .slice elems spare => uptoBulkAll elems + uptoBulkAll spare + 1
  | .agg parts => uptoBulkAll parts + 1
  | .iface _ d => uptoBulk d + 1
  | .map entries => uptoBulkEntries entries + 1
  | .held _ => 1
def uptoBulkAll {H : Type} : List (DataW H) → Nat
  | [] => 0
  | d :: r => uptoBulk d + uptoBulkAll r
def uptoBulkEntries {H : Type} : List (Lit × DataW H) → Nat
  | [] => 0
  | x :: r => uptoBulkEntry x + uptoBulkEntries r
def uptoBulkEntry {H : Type} : Lit × DataW H → Nat
  | (.string bytes, d) => bytes.length + uptoBulk d + 1
  | (_, d) => uptoBulk d + 1
 end
def uptoSmall : (H : Type) → List (DataW H) → Bool := fun _ ds => decide (uptoBulkAll ds ≤ 1048576)
def OpenSpec.upto (s : _root_.Go.ChangeSpec) : _root_.Go.OpenSpec := { _root_.Go.OpenSpec.ofChange s with cond := some uptoSmall }

/-- 'padlocklaw05.UnderTells', WHERE WHAT IT READS IS OF BULK AT MOST 1048576: true; the input reads as it did. -/
def underTellsUptoRow : OpenClaim := { program := "ytmocbbealcdakaa", sum := "cad22293d33a79ba2792c50420784d4f02554c567c37d9b05a2f32b756269254", func := "padlock/padlocklaw05.UnderTells", spec := "underTells", inPlace := ["internal/bytealg.IndexByteString", "internal/bytealg.IndexString"], unfollowed := true, recurses := true, named := ["internal/bytealg.MaxLen"], apart := false, narrowed := true }
def UnderTellsUptoSaid : Prop := underTellsUptoRow.holds Try.pinned (OpenSpec.upto underTellsSpec)

/-- 'padlocklaw05.UnderLists', WHERE WHAT IT READS IS OF BULK AT MOST 1048576: true; the input reads as it did. -/
def underListsUptoRow : OpenClaim := { program := "ytmocbbealcdakaa", sum := "cad22293d33a79ba2792c50420784d4f02554c567c37d9b05a2f32b756269254", func := "padlock/padlocklaw05.UnderLists", spec := "underLists", inPlace := ["internal/bytealg.IndexByteString", "internal/bytealg.IndexString"], unfollowed := true, recurses := true, named := ["internal/bytealg.MaxLen"], apart := false, narrowed := true }
def UnderListsUptoSaid : Prop := underListsUptoRow.holds Try.pinned (OpenSpec.upto underListsSpec)

/-- 'padlocklaw05.UnderOrder', WHERE WHAT IT READS IS OF BULK AT MOST 1048576: true; the input reads as it did. -/
def underOrderUptoRow : OpenClaim := { program := "ytmocbbealcdakaa", sum := "cad22293d33a79ba2792c50420784d4f02554c567c37d9b05a2f32b756269254", func := "padlock/padlocklaw05.UnderOrder", spec := "underOrder", inPlace := ["internal/bytealg.IndexByteString", "internal/bytealg.IndexString"], unfollowed := true, recurses := true, named := ["internal/bytealg.MaxLen"], apart := false, narrowed := true }
def UnderOrderUptoSaid : Prop := underOrderUptoRow.holds Try.pinned (OpenSpec.upto underOrderSpec)

/-- 'padlocklaw05.UnderMeets', WHERE WHAT IT READS IS OF BULK AT MOST 1048576: true; the input reads as it did. -/
def underMeetsUptoRow : OpenClaim := { program := "ytmocbbealcdakaa", sum := "cad22293d33a79ba2792c50420784d4f02554c567c37d9b05a2f32b756269254", func := "padlock/padlocklaw05.UnderMeets", spec := "underMeets", inPlace := ["internal/bytealg.IndexByteString", "internal/bytealg.IndexString"], unfollowed := true, recurses := true, named := ["internal/bytealg.MaxLen"], apart := false, narrowed := true }
def UnderMeetsUptoSaid : Prop := underMeetsUptoRow.holds Try.pinned (OpenSpec.upto underMeetsSpec)

/-- 'padlocklaw05.UnderGrows', WHERE WHAT IT READS IS OF BULK AT MOST 1048576: true; the input reads as it did. -/
def underGrowsUptoRow : OpenClaim := { program := "ytmocbbealcdakaa", sum := "cad22293d33a79ba2792c50420784d4f02554c567c37d9b05a2f32b756269254", func := "padlock/padlocklaw05.UnderGrows", spec := "underGrows", inPlace := ["internal/bytealg.IndexByteString", "internal/bytealg.IndexString"], unfollowed := true, recurses := true, named := ["internal/bytealg.MaxLen"], apart := false, narrowed := true }
def UnderGrowsUptoSaid : Prop := underGrowsUptoRow.holds Try.pinned (OpenSpec.upto underGrowsSpec)

end Rows
end Go.Proofs.Ytmocbbealcdakaa
