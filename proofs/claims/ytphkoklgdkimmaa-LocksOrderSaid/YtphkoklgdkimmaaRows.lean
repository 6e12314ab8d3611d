/-
  No cell of these rows narrows 'for every input' (looked for: loops, veiled, ifaces, maps, wideKeys, modest, calm, conditions, laid).
  DERIVED. THE GIVEN ROWS OF THIS SEAT. 18 by the template 'for every input the law returns true; each argument reads behind the call as it read before'; 0 by the template 'total and deterministic' (their statements: YtphkoklgdkimmaaTotals.lean).
  GIVEN WITH THE SEED: the statements are not yours to turn. If you find one false, say at which input.
  Laid BY PROGRAM, IN A SANDBOX (cutbox-rows.mjs): the forced cells as the released guide's own fill.sh prints them over the translation 6b8e635621d98212… (all of the seat's roots in one cut). By AI agents, Wed Nov 11 2026. No macro, syntax, notation, axiom, sorry.
-/
import Derived.Test.YtphkoklgdkimmaaChecked
import GoSem.Claim
import GoSem.ClaimJoined
import GoSem.ClaimMapViews
import Derived.JoinedTies
import Derived.KernelRfl
namespace Go.Proofs.Ytphkoklgdkimmaa
/- THE CELL 'sum', in the pinned program and in every row, IS THE sha256 OF THE DUMP (.gsa) THAT YtphkoklgdkimmaaProg.lean LOADS. Nothing in Lean hashes anything: it is a label: what it is worth is what the hold of that sum in a sandbox is worth. -/
noncomputable def Try.pinned : Pinned := { name := "ytphkoklgdkimmaa", sum := "6b8e635621d98212ebc6542023c51be3b8971f993a01e0f1277d1ce363155059", checked := Try.checked }
namespace Rows
def none {H : Type} : Left H := { results := [], args := [] }

/-- 'padlocklaw03.FnvSums': WHATEVER THE INPUT: true; the input reads as it did. -/
def fnvSumsSpec : ChangeSpec := { name := "fnvSums", fn := fun _ => fun
  | [d1, d2, d3] => { results := [.lit (.bool true)], args := [d1, d2, d3] }
  | _ => none }
def fnvSumsRow : OpenClaim := { program := "ytphkoklgdkimmaa", sum := "6b8e635621d98212ebc6542023c51be3b8971f993a01e0f1277d1ce363155059", func := "padlock/padlocklaw03.FnvSums", spec := "fnvSums", apart := false }
def FnvSumsSaid : Prop := fnvSumsRow.holds Try.pinned (OpenSpec.ofChange fnvSumsSpec)

/-- ITS FALSE NEIGHBOUR: 'it returns false'. Refute it at one input. -/
def fnvSumsWrong : ChangeSpec := { name := "fnvSums", fn := fun _ => fun
  | [d1, d2, d3] => { results := [.lit (.bool false)], args := [d1, d2, d3] }
  | _ => none }
def FnvSumsWrongFalsely : Prop := fnvSumsRow.holds Try.pinned (OpenSpec.ofChange fnvSumsWrong)

/-- 'padlocklaw03.FnvShards': WHATEVER THE INPUT: true; the input reads as it did. -/
def fnvShardsSpec : ChangeSpec := { name := "fnvShards", fn := fun _ => fun
  | [d1, d2] => { results := [.lit (.bool true)], args := [d1, d2] }
  | _ => none }
def fnvShardsRow : OpenClaim := { program := "ytphkoklgdkimmaa", sum := "6b8e635621d98212ebc6542023c51be3b8971f993a01e0f1277d1ce363155059", func := "padlock/padlocklaw03.FnvShards", spec := "fnvShards", apart := false }
def FnvShardsSaid : Prop := fnvShardsRow.holds Try.pinned (OpenSpec.ofChange fnvShardsSpec)

/-- ITS FALSE NEIGHBOUR: 'it returns false'. Refute it at one input. -/
def fnvShardsWrong : ChangeSpec := { name := "fnvShards", fn := fun _ => fun
  | [d1, d2] => { results := [.lit (.bool false)], args := [d1, d2] }
  | _ => none }
def FnvShardsWrongFalsely : Prop := fnvShardsRow.holds Try.pinned (OpenSpec.ofChange fnvShardsWrong)

/-- 'padlocklaw03.FnvUndoes': WHATEVER THE INPUT: true; the input reads as it did. -/
def fnvUndoesSpec : ChangeSpec := { name := "fnvUndoes", fn := fun _ => fun
  | [d1, d2] => { results := [.lit (.bool true)], args := [d1, d2] }
  | _ => none }
def fnvUndoesRow : OpenClaim := { program := "ytphkoklgdkimmaa", sum := "6b8e635621d98212ebc6542023c51be3b8971f993a01e0f1277d1ce363155059", func := "padlock/padlocklaw03.FnvUndoes", spec := "fnvUndoes", apart := false }
def FnvUndoesSaid : Prop := fnvUndoesRow.holds Try.pinned (OpenSpec.ofChange fnvUndoesSpec)

/-- ITS FALSE NEIGHBOUR: 'it returns false'. Refute it at one input. -/
def fnvUndoesWrong : ChangeSpec := { name := "fnvUndoes", fn := fun _ => fun
  | [d1, d2] => { results := [.lit (.bool false)], args := [d1, d2] }
  | _ => none }
def FnvUndoesWrongFalsely : Prop := fnvUndoesRow.holds Try.pinned (OpenSpec.ofChange fnvUndoesWrong)

/-- 'padlocklaw03.FnvSets': WHATEVER THE INPUT: true; the input reads as it did. -/
def fnvSetsSpec : ChangeSpec := { name := "fnvSets", fn := fun _ => fun
  | [d1, d2, d3] => { results := [.lit (.bool true)], args := [d1, d2, d3] }
  | _ => none }
def fnvSetsRow : OpenClaim := { program := "ytphkoklgdkimmaa", sum := "6b8e635621d98212ebc6542023c51be3b8971f993a01e0f1277d1ce363155059", func := "padlock/padlocklaw03.FnvSets", spec := "fnvSets", apart := false }
def FnvSetsSaid : Prop := fnvSetsRow.holds Try.pinned (OpenSpec.ofChange fnvSetsSpec)

/-- ITS FALSE NEIGHBOUR: 'it returns false'. Refute it at one input. -/
def fnvSetsWrong : ChangeSpec := { name := "fnvSets", fn := fun _ => fun
  | [d1, d2, d3] => { results := [.lit (.bool false)], args := [d1, d2, d3] }
  | _ => none }
def FnvSetsWrongFalsely : Prop := fnvSetsRow.holds Try.pinned (OpenSpec.ofChange fnvSetsWrong)

/-- 'padlocklaw24.GateDoes': WHATEVER THE INPUT: true; the input reads as it did. -/
def gateDoesSpec : ChangeSpec := { name := "gateDoes", fn := fun _ => fun
  | [d1, d2] => { results := [.lit (.bool true)], args := [d1, d2] }
  | _ => none }
def gateDoesRow : OpenClaim := { program := "ytphkoklgdkimmaa", sum := "6b8e635621d98212ebc6542023c51be3b8971f993a01e0f1277d1ce363155059", func := "padlock/padlocklaw24.GateDoes", spec := "gateDoes", unfollowed := true, recurses := true, apart := false }
def GateDoesSaid : Prop := gateDoesRow.holds Try.pinned (OpenSpec.ofChange gateDoesSpec)

/-- ITS FALSE NEIGHBOUR: 'it returns false'. Refute it at one input. -/
def gateDoesWrong : ChangeSpec := { name := "gateDoes", fn := fun _ => fun
  | [d1, d2] => { results := [.lit (.bool false)], args := [d1, d2] }
  | _ => none }
def GateDoesWrongFalsely : Prop := gateDoesRow.holds Try.pinned (OpenSpec.ofChange gateDoesWrong)

/-- 'padlocklaw24.GateSame': WHATEVER THE INPUT: true; the input reads as it did. -/
def gateSameSpec : ChangeSpec := { name := "gateSame", fn := fun _ => fun
  | [d1, d2] => { results := [.lit (.bool true)], args := [d1, d2] }
  | _ => none }
def gateSameRow : OpenClaim := { program := "ytphkoklgdkimmaa", sum := "6b8e635621d98212ebc6542023c51be3b8971f993a01e0f1277d1ce363155059", func := "padlock/padlocklaw24.GateSame", spec := "gateSame", unfollowed := true, recurses := true, apart := false }
def GateSameSaid : Prop := gateSameRow.holds Try.pinned (OpenSpec.ofChange gateSameSpec)

/-- ITS FALSE NEIGHBOUR: 'it returns false'. Refute it at one input. -/
def gateSameWrong : ChangeSpec := { name := "gateSame", fn := fun _ => fun
  | [d1, d2] => { results := [.lit (.bool false)], args := [d1, d2] }
  | _ => none }
def GateSameWrongFalsely : Prop := gateSameRow.holds Try.pinned (OpenSpec.ofChange gateSameWrong)

/-- 'padlocklaw24.GateFine': WHATEVER THE INPUT: true; the input reads as it did. -/
def gateFineSpec : ChangeSpec := { name := "gateFine", fn := fun _ => fun
  | [d] => { results := [.lit (.bool true)], args := [d] }
  | _ => none }
def gateFineRow : OpenClaim := { program := "ytphkoklgdkimmaa", sum := "6b8e635621d98212ebc6542023c51be3b8971f993a01e0f1277d1ce363155059", func := "padlock/padlocklaw24.GateFine", spec := "gateFine", unfollowed := true, recurses := true, apart := false }
def GateFineSaid : Prop := gateFineRow.holds Try.pinned (OpenSpec.ofChange gateFineSpec)

/-- ITS FALSE NEIGHBOUR: 'it returns false'. Refute it at one input. -/
def gateFineWrong : ChangeSpec := { name := "gateFine", fn := fun _ => fun
  | [d] => { results := [.lit (.bool false)], args := [d] }
  | _ => none }
def GateFineWrongFalsely : Prop := gateFineRow.holds Try.pinned (OpenSpec.ofChange gateFineWrong)

/-- 'padlocklaw24.GateFair': WHATEVER THE INPUT: true; the input reads as it did. -/
def gateFairSpec : ChangeSpec := { name := "gateFair", fn := fun _ => fun
  | [d1, d2, d3] => { results := [.lit (.bool true)], args := [d1, d2, d3] }
  | _ => none }
def gateFairRow : OpenClaim := { program := "ytphkoklgdkimmaa", sum := "6b8e635621d98212ebc6542023c51be3b8971f993a01e0f1277d1ce363155059", func := "padlock/padlocklaw24.GateFair", spec := "gateFair", unfollowed := true, recurses := true, apart := false }
def GateFairSaid : Prop := gateFairRow.holds Try.pinned (OpenSpec.ofChange gateFairSpec)

/-- ITS FALSE NEIGHBOUR: 'it returns false'. Refute it at one input. -/
def gateFairWrong : ChangeSpec := { name := "gateFair", fn := fun _ => fun
  | [d1, d2, d3] => { results := [.lit (.bool false)], args := [d1, d2, d3] }
  | _ => none }
def GateFairWrongFalsely : Prop := gateFairRow.holds Try.pinned (OpenSpec.ofChange gateFairWrong)

/-- 'padlocklaw25.LocksDo': WHATEVER THE INPUT: true; the input reads as it did. -/
def locksDoSpec : ChangeSpec := { name := "locksDo", fn := fun _ => fun
  | [d1, d2] => { results := [.lit (.bool true)], args := [d1, d2] }
  | _ => none }
def locksDoRow : OpenClaim := { program := "ytphkoklgdkimmaa", sum := "6b8e635621d98212ebc6542023c51be3b8971f993a01e0f1277d1ce363155059", func := "padlock/padlocklaw25.LocksDo", spec := "locksDo", unfollowed := true, recurses := true, apart := false }
def LocksDoSaid : Prop := locksDoRow.holds Try.pinned (OpenSpec.ofChange locksDoSpec)

/-- ITS FALSE NEIGHBOUR: 'it returns false'. Refute it at one input. -/
def locksDoWrong : ChangeSpec := { name := "locksDo", fn := fun _ => fun
  | [d1, d2] => { results := [.lit (.bool false)], args := [d1, d2] }
  | _ => none }
def LocksDoWrongFalsely : Prop := locksDoRow.holds Try.pinned (OpenSpec.ofChange locksDoWrong)

/-- 'padlocklaw25.LocksNever': WHATEVER THE INPUT: true; the input reads as it did. -/
def locksNeverSpec : ChangeSpec := { name := "locksNever", fn := fun _ => fun
  | [d1, d2] => { results := [.lit (.bool true)], args := [d1, d2] }
  | _ => none }
def locksNeverRow : OpenClaim := { program := "ytphkoklgdkimmaa", sum := "6b8e635621d98212ebc6542023c51be3b8971f993a01e0f1277d1ce363155059", func := "padlock/padlocklaw25.LocksNever", spec := "locksNever", unfollowed := true, recurses := true, apart := false }
def LocksNeverSaid : Prop := locksNeverRow.holds Try.pinned (OpenSpec.ofChange locksNeverSpec)

/-- ITS FALSE NEIGHBOUR: 'it returns false'. Refute it at one input. -/
def locksNeverWrong : ChangeSpec := { name := "locksNever", fn := fun _ => fun
  | [d1, d2] => { results := [.lit (.bool false)], args := [d1, d2] }
  | _ => none }
def LocksNeverWrongFalsely : Prop := locksNeverRow.holds Try.pinned (OpenSpec.ofChange locksNeverWrong)

/-- 'padlocklaw25.LocksEnd': WHATEVER THE INPUT: true; the input reads as it did. -/
def locksEndSpec : ChangeSpec := { name := "locksEnd", fn := fun _ => fun
  | [d1, d2, d3] => { results := [.lit (.bool true)], args := [d1, d2, d3] }
  | _ => none }
def locksEndRow : OpenClaim := { program := "ytphkoklgdkimmaa", sum := "6b8e635621d98212ebc6542023c51be3b8971f993a01e0f1277d1ce363155059", func := "padlock/padlocklaw25.LocksEnd", spec := "locksEnd", unfollowed := true, recurses := true, apart := false }
def LocksEndSaid : Prop := locksEndRow.holds Try.pinned (OpenSpec.ofChange locksEndSpec)

/-- ITS FALSE NEIGHBOUR: 'it returns false'. Refute it at one input. -/
def locksEndWrong : ChangeSpec := { name := "locksEnd", fn := fun _ => fun
  | [d1, d2, d3] => { results := [.lit (.bool false)], args := [d1, d2, d3] }
  | _ => none }
def LocksEndWrongFalsely : Prop := locksEndRow.holds Try.pinned (OpenSpec.ofChange locksEndWrong)

/-- 'padlocklaw25.LocksOrder': WHATEVER THE INPUT: true; the input reads as it did. -/
def locksOrderSpec : ChangeSpec := { name := "locksOrder", fn := fun _ => fun
  | [d1, d2] => { results := [.lit (.bool true)], args := [d1, d2] }
  | _ => none }
def locksOrderRow : OpenClaim := { program := "ytphkoklgdkimmaa", sum := "6b8e635621d98212ebc6542023c51be3b8971f993a01e0f1277d1ce363155059", func := "padlock/padlocklaw25.LocksOrder", spec := "locksOrder", unfollowed := true, recurses := true, apart := false }
def LocksOrderSaid : Prop := locksOrderRow.holds Try.pinned (OpenSpec.ofChange locksOrderSpec)

/-- ITS FALSE NEIGHBOUR: 'it returns false'. Refute it at one input. -/
def locksOrderWrong : ChangeSpec := { name := "locksOrder", fn := fun _ => fun
  | [d1, d2] => { results := [.lit (.bool false)], args := [d1, d2] }
  | _ => none }
def LocksOrderWrongFalsely : Prop := locksOrderRow.holds Try.pinned (OpenSpec.ofChange locksOrderWrong)

/-- 'padlocklaw26.SecretWrites': WHATEVER THE INPUT: true; the input reads as it did. -/
def secretWritesSpec : ChangeSpec := { name := "secretWrites", fn := fun _ => fun
  | [d1, d2, d3] => { results := [.lit (.bool true)], args := [d1, d2, d3] }
  | _ => none }
def secretWritesRow : OpenClaim := { program := "ytphkoklgdkimmaa", sum := "6b8e635621d98212ebc6542023c51be3b8971f993a01e0f1277d1ce363155059", func := "padlock/padlocklaw26.SecretWrites", spec := "secretWrites", unfollowed := true, recurses := true, apart := false }
def SecretWritesSaid : Prop := secretWritesRow.holds Try.pinned (OpenSpec.ofChange secretWritesSpec)

/-- ITS FALSE NEIGHBOUR: 'it returns false'. Refute it at one input. -/
def secretWritesWrong : ChangeSpec := { name := "secretWrites", fn := fun _ => fun
  | [d1, d2, d3] => { results := [.lit (.bool false)], args := [d1, d2, d3] }
  | _ => none }
def SecretWritesWrongFalsely : Prop := secretWritesRow.holds Try.pinned (OpenSpec.ofChange secretWritesWrong)

/-- 'padlocklaw26.SecretTurns': WHATEVER THE INPUT: true; the input reads as it did. -/
def secretTurnsSpec : ChangeSpec := { name := "secretTurns", fn := fun _ => fun
  | [d1, d2, d3] => { results := [.lit (.bool true)], args := [d1, d2, d3] }
  | _ => none }
def secretTurnsRow : OpenClaim := { program := "ytphkoklgdkimmaa", sum := "6b8e635621d98212ebc6542023c51be3b8971f993a01e0f1277d1ce363155059", func := "padlock/padlocklaw26.SecretTurns", spec := "secretTurns", unfollowed := true, recurses := true, apart := false }
def SecretTurnsSaid : Prop := secretTurnsRow.holds Try.pinned (OpenSpec.ofChange secretTurnsSpec)

/-- ITS FALSE NEIGHBOUR: 'it returns false'. Refute it at one input. -/
def secretTurnsWrong : ChangeSpec := { name := "secretTurns", fn := fun _ => fun
  | [d1, d2, d3] => { results := [.lit (.bool false)], args := [d1, d2, d3] }
  | _ => none }
def SecretTurnsWrongFalsely : Prop := secretTurnsRow.holds Try.pinned (OpenSpec.ofChange secretTurnsWrong)

/-- 'padlocklaw26.SecretConfigures': WHATEVER THE INPUT: true; the input reads as it did. -/
def secretConfiguresSpec : ChangeSpec := { name := "secretConfigures", fn := fun _ => fun
  | [d1, d2, d3] => { results := [.lit (.bool true)], args := [d1, d2, d3] }
  | _ => none }
def secretConfiguresRow : OpenClaim := { program := "ytphkoklgdkimmaa", sum := "6b8e635621d98212ebc6542023c51be3b8971f993a01e0f1277d1ce363155059", func := "padlock/padlocklaw26.SecretConfigures", spec := "secretConfigures", unfollowed := true, recurses := true, apart := false }
def SecretConfiguresSaid : Prop := secretConfiguresRow.holds Try.pinned (OpenSpec.ofChange secretConfiguresSpec)

/-- ITS FALSE NEIGHBOUR: 'it returns false'. Refute it at one input. -/
def secretConfiguresWrong : ChangeSpec := { name := "secretConfigures", fn := fun _ => fun
  | [d1, d2, d3] => { results := [.lit (.bool false)], args := [d1, d2, d3] }
  | _ => none }
def SecretConfiguresWrongFalsely : Prop := secretConfiguresRow.holds Try.pinned (OpenSpec.ofChange secretConfiguresWrong)

/-- 'padlocklaw26.SecretBound': WHATEVER THE INPUT: true; the input reads as it did. -/
def secretBoundSpec : ChangeSpec := { name := "secretBound", fn := fun _ => fun
  | [d1, d2] => { results := [.lit (.bool true)], args := [d1, d2] }
  | _ => none }
def secretBoundRow : OpenClaim := { program := "ytphkoklgdkimmaa", sum := "6b8e635621d98212ebc6542023c51be3b8971f993a01e0f1277d1ce363155059", func := "padlock/padlocklaw26.SecretBound", spec := "secretBound", unfollowed := true, recurses := true, apart := false }
def SecretBoundSaid : Prop := secretBoundRow.holds Try.pinned (OpenSpec.ofChange secretBoundSpec)

/-- ITS FALSE NEIGHBOUR: 'it returns false'. Refute it at one input. -/
def secretBoundWrong : ChangeSpec := { name := "secretBound", fn := fun _ => fun
  | [d1, d2] => { results := [.lit (.bool false)], args := [d1, d2] }
  | _ => none }
def SecretBoundWrongFalsely : Prop := secretBoundRow.holds Try.pinned (OpenSpec.ofChange secretBoundWrong)

/-- 'padlocklaw26.SecretUndoes': WHATEVER THE INPUT: true; the input reads as it did. -/
def secretUndoesSpec : ChangeSpec := { name := "secretUndoes", fn := fun _ => fun
  | [d1, d2] => { results := [.lit (.bool true)], args := [d1, d2] }
  | _ => none }
def secretUndoesRow : OpenClaim := { program := "ytphkoklgdkimmaa", sum := "6b8e635621d98212ebc6542023c51be3b8971f993a01e0f1277d1ce363155059", func := "padlock/padlocklaw26.SecretUndoes", spec := "secretUndoes", unfollowed := true, recurses := true, apart := false }
def SecretUndoesSaid : Prop := secretUndoesRow.holds Try.pinned (OpenSpec.ofChange secretUndoesSpec)

/-- ITS FALSE NEIGHBOUR: 'it returns false'. Refute it at one input. -/
def secretUndoesWrong : ChangeSpec := { name := "secretUndoes", fn := fun _ => fun
  | [d1, d2] => { results := [.lit (.bool false)], args := [d1, d2] }
  | _ => none }
def SecretUndoesWrongFalsely : Prop := secretUndoesRow.holds Try.pinned (OpenSpec.ofChange secretUndoesWrong)

/-- 'padlocklaw26.SecretOnce': WHATEVER THE INPUT: true; the input reads as it did. -/
def secretOnceSpec : ChangeSpec := { name := "secretOnce", fn := fun _ => fun
  | [d1, d2, d3] => { results := [.lit (.bool true)], args := [d1, d2, d3] }
  | _ => none }
def secretOnceRow : OpenClaim := { program := "ytphkoklgdkimmaa", sum := "6b8e635621d98212ebc6542023c51be3b8971f993a01e0f1277d1ce363155059", func := "padlock/padlocklaw26.SecretOnce", spec := "secretOnce", unfollowed := true, recurses := true, apart := false }
def SecretOnceSaid : Prop := secretOnceRow.holds Try.pinned (OpenSpec.ofChange secretOnceSpec)

/-- ITS FALSE NEIGHBOUR: 'it returns false'. Refute it at one input. -/
def secretOnceWrong : ChangeSpec := { name := "secretOnce", fn := fun _ => fun
  | [d1, d2, d3] => { results := [.lit (.bool false)], args := [d1, d2, d3] }
  | _ => none }
def SecretOnceWrongFalsely : Prop := secretOnceRow.holds Try.pinned (OpenSpec.ofChange secretOnceWrong)

/- THE SECOND FORM. 'bulk': how many values and letters a reading holds, each counted each time it is reached (what is shared counts as often as it is met; a slice's spare places count too). A statement '..UptoSaid' is the law's where the arguments, and the package variables that the reading takes, are together of bulk at most 1048576: NARROWER than '..Said'. Prove '..Said' where nothing that the law and all that it calls make is longer than what came in: it says more and counts as full. Else prove '..UptoSaid'. A law counts once. -/
mutual
def uptoBulk {H : Type} : DataW H → Nat
  | .lit (.string bytes) => bytes.length + 1
  | .lit _ => 1
  | .nil => 1
  | .ptr d => uptoBulk d + 1
  | .slice elems spare => uptoBulkAll elems + uptoBulkAll spare + 1
  | .agg parts => uptoBulkAll parts + 1
  | .iface _ d => uptoBulk d + 1
  | .map entries => uptoBulkEntries entries + 1
  | .held _ => 1
def uptoBulkAll {H : Type} : List (DataW H) → Nat
  | [] => 0
  | d :: r => uptoBulk d + uptoBulkAll r
def uptoBulkEntries {H : Type} : List (Lit × DataW H) → Nat
  | [] => 0
  | x :: r => uptoBulkEntry x + uptoBulkEntries r
def uptoBulkEntry {H : Type} : Lit × DataW H → Nat
  | (.string bytes, d) => bytes.length + uptoBulk d + 1
  | (_, d) => uptoBulk d + 1
 end
def uptoSmall : (H : Type) → List (DataW H) → Bool := fun _ ds => decide (uptoBulkAll ds ≤ 1048576)
def OpenSpec.upto (s : _root_.Go.ChangeSpec) : _root_.Go.OpenSpec := { _root_.Go.OpenSpec.ofChange s with cond := some uptoSmall }

/-- 'padlocklaw03.FnvSums', WHERE WHAT IT READS IS OF BULK AT MOST 1048576: true; the input reads as it did. -/
def fnvSumsUptoRow : OpenClaim := { program := "ytphkoklgdkimmaa", sum := "6b8e635621d98212ebc6542023c51be3b8971f993a01e0f1277d1ce363155059", func := "padlock/padlocklaw03.FnvSums", spec := "fnvSums", apart := false, narrowed := true }
def FnvSumsUptoSaid : Prop := fnvSumsUptoRow.holds Try.pinned (OpenSpec.upto fnvSumsSpec)

/-- 'padlocklaw03.FnvShards', WHERE WHAT IT READS IS OF BULK AT MOST 1048576: true; the input reads as it did. -/
def fnvShardsUptoRow : OpenClaim := { program := "ytphkoklgdkimmaa", sum := "6b8e635621d98212ebc6542023c51be3b8971f993a01e0f1277d1ce363155059", func := "padlock/padlocklaw03.FnvShards", spec := "fnvShards", apart := false, narrowed := true }
def FnvShardsUptoSaid : Prop := fnvShardsUptoRow.holds Try.pinned (OpenSpec.upto fnvShardsSpec)

/-- 'padlocklaw03.FnvUndoes', WHERE WHAT IT READS IS OF BULK AT MOST 1048576: true; the input reads as it did. -/
def fnvUndoesUptoRow : OpenClaim := { program := "ytphkoklgdkimmaa", sum := "6b8e635621d98212ebc6542023c51be3b8971f993a01e0f1277d1ce363155059", func := "padlock/padlocklaw03.FnvUndoes", spec := "fnvUndoes", apart := false, narrowed := true }
def FnvUndoesUptoSaid : Prop := fnvUndoesUptoRow.holds Try.pinned (OpenSpec.upto fnvUndoesSpec)

/-- 'padlocklaw03.FnvSets', WHERE WHAT IT READS IS OF BULK AT MOST 1048576: true; the input reads as it did. -/
def fnvSetsUptoRow : OpenClaim := { program := "ytphkoklgdkimmaa", sum := "6b8e635621d98212ebc6542023c51be3b8971f993a01e0f1277d1ce363155059", func := "padlock/padlocklaw03.FnvSets", spec := "fnvSets", apart := false, narrowed := true }
def FnvSetsUptoSaid : Prop := fnvSetsUptoRow.holds Try.pinned (OpenSpec.upto fnvSetsSpec)

/-- 'padlocklaw24.GateDoes', WHERE WHAT IT READS IS OF BULK AT MOST 1048576: true; the input reads as it did. -/
def gateDoesUptoRow : OpenClaim := { program := "ytphkoklgdkimmaa", sum := "6b8e635621d98212ebc6542023c51be3b8971f993a01e0f1277d1ce363155059", func := "padlock/padlocklaw24.GateDoes", spec := "gateDoes", unfollowed := true, recurses := true, apart := false, narrowed := true }
def GateDoesUptoSaid : Prop := gateDoesUptoRow.holds Try.pinned (OpenSpec.upto gateDoesSpec)

/-- 'padlocklaw24.GateSame', WHERE WHAT IT READS IS OF BULK AT MOST 1048576: true; the input reads as it did. -/
def gateSameUptoRow : OpenClaim := { program := "ytphkoklgdkimmaa", sum := "6b8e635621d98212ebc6542023c51be3b8971f993a01e0f1277d1ce363155059", func := "padlock/padlocklaw24.GateSame", spec := "gateSame", unfollowed := true, recurses := true, apart := false, narrowed := true }
def GateSameUptoSaid : Prop := gateSameUptoRow.holds Try.pinned (OpenSpec.upto gateSameSpec)

/-- 'padlocklaw24.GateFine', WHERE WHAT IT READS IS OF BULK AT MOST 1048576: true; the input reads as it did. -/
def gateFineUptoRow : OpenClaim := { program := "ytphkoklgdkimmaa", sum := "6b8e635621d98212ebc6542023c51be3b8971f993a01e0f1277d1ce363155059", func := "padlock/padlocklaw24.GateFine", spec := "gateFine", unfollowed := true, recurses := true, apart := false, narrowed := true }
def GateFineUptoSaid : Prop := gateFineUptoRow.holds Try.pinned (OpenSpec.upto gateFineSpec)

/-- 'padlocklaw24.GateFair', WHERE WHAT IT READS IS OF BULK AT MOST 1048576: true; the input reads as it did. -/
def gateFairUptoRow : OpenClaim := { program := "ytphkoklgdkimmaa", sum := "6b8e635621d98212ebc6542023c51be3b8971f993a01e0f1277d1ce363155059", func := "padlock/padlocklaw24.GateFair", spec := "gateFair", unfollowed := true, recurses := true, apart := false, narrowed := true }
def GateFairUptoSaid : Prop := gateFairUptoRow.holds Try.pinned (OpenSpec.upto gateFairSpec)

/-- 'padlocklaw25.LocksDo', WHERE WHAT IT READS IS OF BULK AT MOST 1048576: true; the input reads as it did. -/
def locksDoUptoRow : OpenClaim := { program := "ytphkoklgdkimmaa", sum := "6b8e635621d98212ebc6542023c51be3b8971f993a01e0f1277d1ce363155059", func := "padlock/padlocklaw25.LocksDo", spec := "locksDo", unfollowed := true, recurses := true, apart := false, narrowed := true }
def LocksDoUptoSaid : Prop := locksDoUptoRow.holds Try.pinned (OpenSpec.upto locksDoSpec)

/-- 'padlocklaw25.LocksNever', WHERE WHAT IT READS IS OF BULK AT MOST 1048576: true; the input reads as it did. -/
def locksNeverUptoRow : OpenClaim := { program := "ytphkoklgdkimmaa", sum := "6b8e635621d98212ebc6542023c51be3b8971f993a01e0f1277d1ce363155059", func := "padlock/padlocklaw25.LocksNever", spec := "locksNever", unfollowed := true, recurses := true, apart := false, narrowed := true }
def LocksNeverUptoSaid : Prop := locksNeverUptoRow.holds Try.pinned (OpenSpec.upto locksNeverSpec)

/-- 'padlocklaw25.LocksEnd', WHERE WHAT IT READS IS OF BULK AT MOST 1048576: true; the input reads as it did. -/
def locksEndUptoRow : OpenClaim := { program := "ytphkoklgdkimmaa", sum := "6b8e635621d98212ebc6542023c51be3b8971f993a01e0f1277d1ce363155059", func := "padlock/padlocklaw25.LocksEnd", spec := "locksEnd", unfollowed := true, recurses := true, apart := false, narrowed := true }
def LocksEndUptoSaid : Prop := locksEndUptoRow.holds Try.pinned (OpenSpec.upto locksEndSpec)

/-- 'padlocklaw25.LocksOrder', WHERE WHAT IT READS IS OF BULK AT MOST 1048576: true; the input reads as it did. -/
def locksOrderUptoRow : OpenClaim := { program := "ytphkoklgdkimmaa", sum := "6b8e635621d98212ebc6542023c51be3b8971f993a01e0f1277d1ce363155059", func := "padlock/padlocklaw25.LocksOrder", spec := "locksOrder", unfollowed := true, recurses := true, apart := false, narrowed := true }
def LocksOrderUptoSaid : Prop := locksOrderUptoRow.holds Try.pinned (OpenSpec.upto locksOrderSpec)

/-- 'padlocklaw26.SecretWrites', WHERE WHAT IT READS IS OF BULK AT MOST 1048576: true; the input reads as it did. -/
def secretWritesUptoRow : OpenClaim := { program := "ytphkoklgdkimmaa", sum := "6b8e635621d98212ebc6542023c51be3b8971f993a01e0f1277d1ce363155059", func := "padlock/padlocklaw26.SecretWrites", spec := "secretWrites", unfollowed := true, recurses := true, apart := false, narrowed := true }
def SecretWritesUptoSaid : Prop := secretWritesUptoRow.holds Try.pinned (OpenSpec.upto secretWritesSpec)

/-- 'padlocklaw26.SecretTurns', WHERE WHAT IT READS IS OF BULK AT MOST 1048576: true; the input reads as it did. -/
def secretTurnsUptoRow : OpenClaim := { program := "ytphkoklgdkimmaa", sum := "6b8e635621d98212ebc6542023c51be3b8971f993a01e0f1277d1ce363155059", func := "padlock/padlocklaw26.SecretTurns", spec := "secretTurns", unfollowed := true, recurses := true, apart := false, narrowed := true }
def SecretTurnsUptoSaid : Prop := secretTurnsUptoRow.holds Try.pinned (OpenSpec.upto secretTurnsSpec)

/-- 'padlocklaw26.SecretConfigures', WHERE WHAT IT READS IS OF BULK AT MOST 1048576: true; the input reads as it did. -/
def secretConfiguresUptoRow : OpenClaim := { program := "ytphkoklgdkimmaa", sum := "6b8e635621d98212ebc6542023c51be3b8971f993a01e0f1277d1ce363155059", func := "padlock/padlocklaw26.SecretConfigures", spec := "secretConfigures", unfollowed := true, recurses := true, apart := false, narrowed := true }
def SecretConfiguresUptoSaid : Prop := secretConfiguresUptoRow.holds Try.pinned (OpenSpec.upto secretConfiguresSpec)

/-- 'padlocklaw26.SecretBound', WHERE WHAT IT READS IS OF BULK AT MOST 1048576: true; the input reads as it did. -/
def secretBoundUptoRow : OpenClaim := { program := "ytphkoklgdkimmaa", sum := "6b8e635621d98212ebc6542023c51be3b8971f993a01e0f1277d1ce363155059", func := "padlock/padlocklaw26.SecretBound", spec := "secretBound", unfollowed := true, recurses := true, apart := false, narrowed := true }
def SecretBoundUptoSaid : Prop := secretBoundUptoRow.holds Try.pinned (OpenSpec.upto secretBoundSpec)

/-- 'padlocklaw26.SecretUndoes', WHERE WHAT IT READS IS OF BULK AT MOST 1048576: true; the input reads as it did. -/
def secretUndoesUptoRow : OpenClaim := { program := "ytphkoklgdkimmaa", sum := "6b8e635621d98212ebc6542023c51be3b8971f993a01e0f1277d1ce363155059", func := "padlock/padlocklaw26.SecretUndoes", spec := "secretUndoes", unfollowed := true, recurses := true, apart := false, narrowed := true }
def SecretUndoesUptoSaid : Prop := secretUndoesUptoRow.holds Try.pinned (OpenSpec.upto secretUndoesSpec)

/-- 'padlocklaw26.SecretOnce', WHERE WHAT IT READS IS OF BULK AT MOST 1048576: true; the input reads as it did. -/
def secretOnceUptoRow : OpenClaim := { program := "ytphkoklgdkimmaa", sum := "6b8e635621d98212ebc6542023c51be3b8971f993a01e0f1277d1ce363155059", func := "padlock/padlocklaw26.SecretOnce", spec := "secretOnce", unfollowed := true, recurses := true, apart := false, narrowed := true }
def SecretOnceUptoSaid : Prop := secretOnceUptoRow.holds Try.pinned (OpenSpec.upto secretOnceSpec)

end Rows
end Go.Proofs.Ytphkoklgdkimmaa
