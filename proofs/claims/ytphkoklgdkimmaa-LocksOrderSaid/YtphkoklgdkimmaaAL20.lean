/- An abstract logic, 20: short names for the proofs of functions. No condition. -/
import Derived.Test.YtphkoklgdkimmaaAL19
namespace AL
open Go
set_option linter.unusedVariables false

/-- The operations of a region, found in a body by its number. -/
def findRg (id : Nat) : Code → Option (Array Oper)
  | .region i ops _ => bif Nat.beq i id then some ops else none
  | .seq a b => match findRg id a with
    | some r => some r
    | none => findRg id b
  | .cond _ a b => match findRg id a with
    | some r => some r
    | none => findRg id b
  | .block _ c => findRg id c
  | .loop c => findRg id c
  | .scope c => findRg id c
  | .rangeFunc _ _ a b => match findRg id a with
    | some r => some r
    | none => findRg id b
  | _ => none
def rg (f : Func) (id : Nat) : Array Oper := ((f.body.bind (findRg id))).getD #[]

abbrev i6 (n : Int) : SC := .int .i64 n
abbrev u8 (n : Int) : SC := .int .u8 n
abbrev u6 (n : Int) : SC := .int .u64 n
abbrev i3 (n : Int) : SC := .int .i32 n
abbrev bo (b : Bool) : SC := .bool b
abbrev st (s : Bytes) : SC := .str s
abbrev tc (c : SC) : TV := .c (.s c)
abbrev vc (c : SC) : AV := .t (.c (.s c))
abbrev vp (id off : Nat) : AV := .t (.c (.ptr id off))
abbrev vo (id : Nat) : AV := .t (.c (.own id))

theorem inR64 {n : Int} (h1 : -9223372036854775808 ≤ n) (h2 : n ≤ 9223372036854775807) : InR .i64 n := by
  simp [InR, IntKind.min, IntKind.max, IntKind.signed, IntKind.bits]; omega
theorem inR64_iff {n : Int} : InR .i64 n ↔ -9223372036854775808 ≤ n ∧ n ≤ 9223372036854775807 := by
  simp [InR, IntKind.min, IntKind.max, IntKind.signed, IntKind.bits]
theorem inR8_iff {n : Int} : InR .u8 n ↔ 0 ≤ n ∧ n ≤ 255 := by
  simp [InR, IntKind.min, IntKind.max, IntKind.signed, IntKind.bits]
theorem inRu64_iff {n : Int} : InR .u64 n ↔ 0 ≤ n ∧ n ≤ 18446744073709551615 := by
  simp [InR, IntKind.min, IntKind.max, IntKind.signed, IntKind.bits]
theorem inR32_iff {n : Int} : InR .i32 n ↔ -2147483648 ≤ n ∧ n ≤ 2147483647 := by
  simp [InR, IntKind.min, IntKind.max, IntKind.signed, IntKind.bits]

/-- The end of a function. -/
theorem RetP.mk {P : Program} {fn : Func} {res : AV} {s : AS} {r : AV} (h : evRes P fn s = some r) (hr : r = res) : RetP P fn res H0 .ret s := ⟨.inl rfl, r, h, hr, fun _ _ h => (by cases h)⟩
theorem RetP.mkn {P : Program} {fn : Func} {res : AV} {s : AS} {r : AV} (h : evRes P fn s = some r) (hr : r = res) : RetP P fn res H0 .normal s := ⟨.inr rfl, r, h, hr, fun _ _ h => (by cases h)⟩
end AL
