/-
  No cell of these rows narrows 'for every input' (looked for: loops, veiled, ifaces, maps, wideKeys, modest, calm, conditions, laid).
  DERIVED. THE GIVEN ROWS OF THIS SEAT. 4 by the template 'for every input the law returns true; each argument reads behind the call as it read before'; 0 by the template 'total and deterministic' (their statements: YtbfhmgbgehenoaaTotals.lean).
  GIVEN WITH THE SEED: the statements are not yours to turn. If you find one false, say at which input.
  Laid BY PROGRAM, IN A SANDBOX (cutbox-rows.mjs): the forced cells as the released guide's own fill.sh prints them over the translation 8842994212bb7beb… (all of the seat's roots in one cut). By AI agents, Wed Nov 11 2026. No macro, syntax, notation, axiom, sorry.
-/
import Derived.Test.YtbfhmgbgehenoaaChecked
import GoSem.Claim
import GoSem.ClaimJoined
import GoSem.ClaimMapViews
import Derived.JoinedTies
import Derived.KernelRfl
namespace Go.Proofs.Ytbfhmgbgehenoaa
/- THE CELL 'sum', in the pinned program and in every row, IS THE sha256 OF THE DUMP (.gsa) THAT YtbfhmgbgehenoaaProg.lean LOADS. Nothing in Lean hashes anything: it is a label: what it is worth is what the hold of that sum in a sandbox is worth. -/
noncomputable def Try.pinned : Pinned := { name := "ytbfhmgbgehenoaa", sum := "8842994212bb7beb8fdf1f888d624436841f0732df8777817db832435334ba83", checked := Try.checked }
namespace Rows
def none {H : Type} : Left H := { results := [], args := [] }

/-- 'padlocklaw25.LocksDo': WHATEVER THE INPUT: true; the input reads as it did. -/
def locksDoSpec : ChangeSpec := { name := "locksDo", fn := fun _ => fun
  | [d1, d2] => { results := [.lit (.bool true)], args := [d1, d2] }
  | _ => none }
def locksDoRow : OpenClaim := { program := "ytbfhmgbgehenoaa", sum := "8842994212bb7beb8fdf1f888d624436841f0732df8777817db832435334ba83", func := "padlock/padlocklaw25.LocksDo", spec := "locksDo", unfollowed := true, recurses := true, apart := false }
def LocksDoSaid : Prop := locksDoRow.holds Try.pinned (OpenSpec.ofChange locksDoSpec)

/-- ITS FALSE NEIGHBOUR: 'it returns false'. Refute it at one input. -/
def locksDoWrong : ChangeSpec := { name := "locksDo", fn := fun _ => fun
  | [d1, d2] => { results := [.lit (.bool false)], args := [d1, d2] }
  | _ => none }
def LocksDoWrongFalsely : Prop := locksDoRow.holds Try.pinned (OpenSpec.ofChange locksDoWrong)

/-- 'padlocklaw25.LocksNever': WHATEVER THE INPUT: true; the input reads as it did. -/
def locksNeverSpec : ChangeSpec := { name := "locksNever", fn := fun _ => fun
  | [d1, d2] => { results := [.lit (.bool true)], args := [d1, d2] }
  | _ => none }
def locksNeverRow : OpenClaim := { program := "ytbfhmgbgehenoaa", sum := "8842994212bb7beb8fdf1f888d624436841f0732df8777817db832435334ba83", func := "padlock/padlocklaw25.LocksNever", spec := "locksNever", unfollowed := true, recurses := true, apart := false }
def LocksNeverSaid : Prop := locksNeverRow.holds Try.pinned (OpenSpec.ofChange locksNeverSpec)

/-- ITS FALSE NEIGHBOUR: 'it returns false'. Refute it at one input. -/
def locksNeverWrong : ChangeSpec := { name := "locksNever", fn := fun _ => fun
  | [d1, d2] => { results := [.lit (.bool false)], args := [d1, d2] }
  | _ => none }
def LocksNeverWrongFalsely : Prop := locksNeverRow.holds Try.pinned (OpenSpec.ofChange locksNeverWrong)

/-- 'padlocklaw25.LocksEnd': WHATEVER THE INPUT: true; the input reads as it did. -/
def locksEndSpec : ChangeSpec := { name := "locksEnd", fn := fun _ => fun
  | [d1, d2, d3] => { results := [.lit (.bool true)], args := [d1, d2, d3] }
  | _ => none }
def locksEndRow : OpenClaim := { program := "ytbfhmgbgehenoaa", sum := "8842994212bb7beb8fdf1f888d624436841f0732df8777817db832435334ba83", func := "padlock/padlocklaw25.LocksEnd", spec := "locksEnd", unfollowed := true, recurses := true, apart := false }
def LocksEndSaid : Prop := locksEndRow.holds Try.pinned (OpenSpec.ofChange locksEndSpec)

/-- ITS FALSE NEIGHBOUR: 'it returns false'. Refute it at one input. -/
def locksEndWrong : ChangeSpec := { name := "locksEnd", fn := fun _ => fun
  | [d1, d2, d3] => { results := [.lit (.bool false)], args := [d1, d2, d3] }
  | _ => none }
def LocksEndWrongFalsely : Prop := locksEndRow.holds Try.pinned (OpenSpec.ofChange locksEndWrong)

/-- 'padlocklaw25.LocksOrder': WHATEVER THE INPUT: true; the input reads as it did. -/
def locksOrderSpec : ChangeSpec := { name := "locksOrder", fn := fun _ => fun
  | [d1, d2] => { results := [.lit (.bool true)], args := [d1, d2] }
  | _ => none }
def locksOrderRow : OpenClaim := { program := "ytbfhmgbgehenoaa", sum := "8842994212bb7beb8fdf1f888d624436841f0732df8777817db832435334ba83", func := "padlock/padlocklaw25.LocksOrder", spec := "locksOrder", unfollowed := true, recurses := true, apart := false }
def LocksOrderSaid : Prop := locksOrderRow.holds Try.pinned (OpenSpec.ofChange locksOrderSpec)

/-- ITS FALSE NEIGHBOUR: 'it returns false'. Refute it at one input. -/
def locksOrderWrong : ChangeSpec := { name := "locksOrder", fn := fun _ => fun
  | [d1, d2] => { results := [.lit (.bool false)], args := [d1, d2] }
  | _ => none }
def LocksOrderWrongFalsely : Prop := locksOrderRow.holds Try.pinned (OpenSpec.ofChange locksOrderWrong)

/- THE SECOND FORM. 'bulk': how many values and letters a reading holds, each counted each time it is reached (what is shared counts as often as it is met; a slice's spare places count too). A statement '..UptoSaid' is the law's where the arguments, and the package variables that the reading takes, are together of bulk at most 1048576: NARROWER than '..Said'. Prove '..Said' where nothing that the law and all that it calls make is longer than what came in: it says more and counts as full. Else prove '..UptoSaid'. A law counts once. -/
mutual
def uptoBulk {H : Type} : DataW H → Nat
  | .lit (.string bytes) => bytes.length + 1
  | .lit _ => 1
  | .nil => 1
  | .ptr d => uptoBulk d + 1
  | .slice elems spare => uptoBulkAll elems + uptoBulkAll spare + 1
  | .agg parts => uptoBulkAll parts + 1
  | .iface _ d => uptoBulk d + 1
  | .map entries => uptoBulkEntries entries + 1
  | .held _ => 1
def uptoBulkAll {H : Type} : List (DataW H) → Nat
  | [] => 0
  | d :: r => uptoBulk d + uptoBulkAll r
def uptoBulkEntries {H : Type} : List (Lit × DataW H) → Nat
  | [] => 0
  | x :: r => uptoBulkEntry x + uptoBulkEntries r
def uptoBulkEntry {H : Type} : Lit × DataW H → Nat
  | (.string bytes, d) => bytes.length + uptoBulk d + 1
  | (_, d) => uptoBulk d + 1
 end
def uptoSmall : (H : Type) → List (DataW H) → Bool := fun _ ds => decide (uptoBulkAll ds ≤ 1048576)
def OpenSpec.upto (s : _root_.Go.ChangeSpec) : _root_.Go.OpenSpec := { _root_.Go.OpenSpec.ofChange s with cond := some uptoSmall }

/-- 'padlocklaw25.LocksDo', WHERE WHAT IT READS IS OF BULK AT MOST 1048576: true; the input reads as it did. -/
def locksDoUptoRow : OpenClaim := { program := "ytbfhmgbgehenoaa", sum := "8842994212bb7beb8fdf1f888d624436841f0732df8777817db832435334ba83", func := "padlock/padlocklaw25.LocksDo", spec := "locksDo", unfollowed := true, recurses := true, apart := false, narrowed := true }
def LocksDoUptoSaid : Prop := locksDoUptoRow.holds Try.pinned (OpenSpec.upto locksDoSpec)

/-- 'padlocklaw25.LocksNever', WHERE WHAT IT READS IS OF BULK AT MOST 1048576: true; the input reads as it did. -/
def locksNeverUptoRow : OpenClaim := { program := "ytbfhmgbgehenoaa", sum := "8842994212bb7beb8fdf1f888d624436841f0732df8777817db832435334ba83", func := "padlock/padlocklaw25.LocksNever", spec := "locksNever", unfollowed := true, recurses := true, apart := false, narrowed := true }
def LocksNeverUptoSaid : Prop := locksNeverUptoRow.holds Try.pinned (OpenSpec.upto locksNeverSpec)

/-- 'padlocklaw25.LocksEnd', WHERE WHAT IT READS IS OF BULK AT MOST 1048576: true; the input reads as it did. -/
def locksEndUptoRow : OpenClaim := { program := "ytbfhmgbgehenoaa", sum := "8842994212bb7beb8fdf1f888d624436841f0732df8777817db832435334ba83", func := "padlock/padlocklaw25.LocksEnd", spec := "locksEnd", unfollowed := true, recurses := true, apart := false, narrowed := true }
def LocksEndUptoSaid : Prop := locksEndUptoRow.holds Try.pinned (OpenSpec.upto locksEndSpec)

/-- 'padlocklaw25.LocksOrder', WHERE WHAT IT READS IS OF BULK AT MOST 1048576: true; the input reads as it did. -/
def locksOrderUptoRow : OpenClaim := { program := "ytbfhmgbgehenoaa", sum := "8842994212bb7beb8fdf1f888d624436841f0732df8777817db832435334ba83", func := "padlock/padlocklaw25.LocksOrder", spec := "locksOrder", unfollowed := true, recurses := true, apart := false, narrowed := true }
def LocksOrderUptoSaid : Prop := locksOrderUptoRow.holds Try.pinned (OpenSpec.upto locksOrderSpec)

end Rows
end Go.Proofs.Ytbfhmgbgehenoaa
