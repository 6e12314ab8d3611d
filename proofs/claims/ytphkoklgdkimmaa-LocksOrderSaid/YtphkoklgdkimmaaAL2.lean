/- An abstract logic, 2: the operations that only compute or read: what they yield on abstract values, and that the model's run yields it. No condition. -/
import Derived.Test.YtphkoklgdkimmaaAL1
namespace AL
open Go
set_option linter.unusedVariables false

/-- A constant of the text as an abstract value. -/
def liftS : Value → SC
  | .int k n => if InR k n then .int k n else .any
  | .bool b => .bool b
  | .string s => if s.size ≤ maxLen then .str s.data.toList else .any
  | .slice none 0 0 => .nilsl
  | .pointer none => .nilptr
  | .nilFunc => .val .nilFunc
  | .nilIface => .val .nilIface
  | _ => .any

def liftsOk : List Value → Bool
  | [] => true
  | v :: l => v.oneCell' && liftsOk l

def lift : Value → AV
  | .agg cs => if liftsOk cs.toList then .t (.agg (cs.toList.map fun v => .s (liftS v))) else .any
  | .tuple _ => .any
  | v => .t (.c (.s (liftS v)))

theorem liftS_ok {I w v} (h : v.oneCell' = true) : MS I w (liftS v) v := by
  unfold liftS
  split
  · split
    · exact ⟨rfl, by assumption⟩
    · exact h
  · rfl
  · split
    · exact ⟨rfl, by rw [Array.length_toList]; assumption⟩
    · exact h
  all_goals first | rfl | exact ⟨rfl, rfl⟩ | exact h

theorem liftsOk_ok {Γ w} : ∀ (l : List Value), liftsOk l = true → MCs Γ w (l.map fun v => .s (liftS v)) l
  | [], _ => trivial
  | v :: l, h => by
    simp only [liftsOk, Bool.and_eq_true] at h
    exact ⟨liftS_ok h.1, liftsOk_ok l h.2⟩

theorem lift_ok {Γ obj w} (v : Value) : MV Γ obj w (lift v) v := by
  unfold lift
  split
  · split
    · exact ⟨_, rfl, liftsOk_ok _ ‹_›⟩
    · trivial
  · trivial
  · rename_i h1 h2
    refine liftS_ok ?_
    cases v <;> first | rfl | exact absurd rfl (h1 _) | exact absurd rfl (h2 _)

def AS.val (s : AS) : Operand → AV
  | .tmp t => s.reg t
  | .const v => lift v
  | .func f => .t (.c (.fn f []))
  | .global _ => .any

theorem val_ok {G Γ s a w} (h : Conc G Γ s a w) (x : Operand) : MV Γ s.obj w (s.val x) (a.eval x) := by
  cases x with
  | tmp t => exact h.regs t
  | const v => exact lift_ok v
  | global g => trivial
  | func f => exact ⟨#[], rfl, trivial⟩

/-- The conditions under which a value is known; and the value. -/
def AV.cond : AV → List Prop
  | .whn p x => p :: x.cond
  | _ => []
def AV.strip : AV → AV
  | .whn _ x => x.strip
  | v => v

def allP : List Prop → Prop
  | [] => True
  | [c] => c
  | c :: d :: l => c ∧ allP (d :: l)

theorem allP_cons {c : Prop} {l : List Prop} : allP (c :: l) ↔ c ∧ allP l := by
  cases l <;> simp [allP]
theorem allP_append {l m : List Prop} : allP (l ++ m) ↔ allP l ∧ allP m := by
  induction l with
  | nil => simp [allP]
  | cons c l ih => rw [List.cons_append, allP_cons, allP_cons, ih, and_assoc]

theorem strip_ok {Γ obj w} : ∀ {x : AV} {v}, MV Γ obj w x v → allP x.cond → MV Γ obj w x.strip v := by
  intro x
  induction x with
  | whn p x ih =>
    intro v h hc
    simp only [AV.cond, allP_cons] at hc
    exact ih (h.1 hc.1) hc.2
  | _ => intro v h _; exact h

/-! ### Arithmetic -/
def arith (k : IntKind) (n : Int) : List Prop × SC := if k.signed then ([InR k n], .int k n) else ([], .int k (k.wrap n))

theorem wrap_of_inR {k : IntKind} {n : Int} (h : InR k n) : k.wrap n = n := by
  obtain ⟨h1, h2⟩ := h
  cases k <;> simp [IntKind.min, IntKind.max, IntKind.signed, IntKind.bits] at h1 h2 <;> simp [IntKind.wrap, IntKind.signed, IntKind.bits] <;> omega
theorem inR_wrap (k : IntKind) (n : Int) : InR k (k.wrap n) := by
  cases k <;> simp [InR, IntKind.min, IntKind.max, IntKind.wrap, IntKind.signed, IntKind.bits] <;> (try split) <;> omega

theorem arith_ok {I w} (k : IntKind) (n : Int) (h : allP (arith k n).1) : MS I w (arith k n).2 (.int k (k.wrap n)) := by
  unfold arith at *
  split at h
  · rename_i hk; rw [if_pos hk]; exact ⟨by rw [wrap_of_inR h], h⟩
  · rename_i hk; rw [if_neg hk]; exact ⟨rfl, inR_wrap _ _⟩

def evBin (op : BinOp) : SC → SC → Option (List Prop × SC)
  | .int k a, .int k' b =>
    match op with
    | .shl => some (([0 ≤ b] ++ (arith k (a * 2 ^ (min b.toNat k.bits))).1), (arith k (a * 2 ^ (min b.toNat k.bits))).2)
    | .shr => some ([0 ≤ b], .int k (a.fdiv (2 ^ (min b.toNat k.bits))))
    | op => if k = k' then
        match op with
        | .add => some (arith k (a + b))
        | .sub => some (arith k (a - b))
        | .mul => some (arith k (a * b))
        | .quo => some ([b ≠ 0] ++ (arith k (a.tdiv b)).1, (arith k (a.tdiv b)).2)
        | .rem => some ([b ≠ 0], .int k (a.tmod b))
        | .and => some ([], .int k (k.wrap (BitVec.ofInt k.bits a &&& BitVec.ofInt k.bits b).toNat))
        | .or => some ([], .int k (k.wrap (BitVec.ofInt k.bits a ||| BitVec.ofInt k.bits b).toNat))
        | .xor => some ([], .int k (k.wrap (BitVec.ofInt k.bits a ^^^ BitVec.ofInt k.bits b).toNat))
        | .andNot => some ([], .int k (k.wrap (BitVec.ofInt k.bits a &&& ~~~(BitVec.ofInt k.bits b)).toNat))
        | .eql => some ([], .bool (decide (a = b)))
        | .neq => some ([], .bool (!decide (a = b)))
        | .lss => some ([], .bool (decide (a < b)))
        | .leq => some ([], .bool (decide (a ≤ b)))
        | .gtr => some ([], .bool (decide (b < a)))
        | .geq => some ([], .bool (decide (b ≤ a)))
        | _ => none
      else none
  | .str a, .str b =>
    match op with
    | .add => some ([a.length + b.length ≤ maxLen], .str (a ++ b))
    | .eql => some ([], .bool (decide (a = b)))
    | .neq => some ([], .bool (!decide (a = b)))
    | .lss => some ([], .bool (Op.bytesLess a b))
    | .leq => some ([], .bool (Op.bytesLess a b || decide (a = b)))
    | .gtr => some ([], .bool (!(Op.bytesLess a b || decide (a = b))))
    | .geq => some ([], .bool (!Op.bytesLess a b))
    | _ => none
  | _, _ => none

theorem tmod_inR {k : IntKind} {a b : Int} (ha : InR k a) (hb : InR k b) : InR k (a.tmod b) := by
  have h1 : -(a.natAbs : Int) ≤ a.tmod b ∧ a.tmod b ≤ a.natAbs := by
    have := Int.natAbs_tmod a b
    have h2 : (a.tmod b).natAbs ≤ a.natAbs := by rw [this]; exact Nat.mod_le _ _
    omega
  have h0 : 0 ≤ a → 0 ≤ a.tmod b := fun h => Int.tmod_nonneg b h
  have h3 : a ≤ 0 → a.tmod b ≤ 0 := fun h => by
    have h4 : 0 ≤ (-a).tmod b := Int.tmod_nonneg b (by omega)
    rw [Int.neg_tmod] at h4
    omega
  obtain ⟨ha1, ha2⟩ := ha
  constructor
  · by_cases h : 0 ≤ a
    · have := h0 h
      cases k <;> simp [IntKind.min, IntKind.max, IntKind.signed, IntKind.bits] at * <;> omega
    · omega
  · by_cases h : 0 ≤ a
    · omega
    · have := h3 (by omega)
      cases k <;> simp [IntKind.min, IntKind.max, IntKind.signed, IntKind.bits] at * <;> omega

theorem fdiv_inR {k : IntKind} {a : Int} (n : Nat) (ha : InR k a) : InR k (a.fdiv (2 ^ n)) := by
  have hp : (1 : Int) ≤ 2 ^ n := by
    have : (1 : Nat) ≤ 2 ^ n := Nat.one_le_two_pow
    exact_mod_cast this
  rw [Int.fdiv_eq_ediv_of_nonneg _ (by omega)]
  have h1 : 0 ≤ a → 0 ≤ a / 2 ^ n ∧ a / 2 ^ n ≤ a := fun h => ⟨Int.ediv_nonneg h (by omega), Int.ediv_le_self _ h⟩
  have h2 : a < 0 → a ≤ a / 2 ^ n ∧ a / 2 ^ n < 0 := fun h => by
    constructor
    · have h5 := Int.le_ediv_of_mul_le (a := a) (b := a) (c := 2 ^ n) (by omega) (by
        have := Int.mul_le_mul_of_nonpos_left (show a ≤ 0 by omega) hp
        omega)
      exact h5
    · exact Int.ediv_neg_of_neg_of_pos h (by omega)
  obtain ⟨ha1, ha2⟩ := ha
  constructor
  · by_cases h : 0 ≤ a
    · have := h1 h
      cases k <;> simp [IntKind.min, IntKind.max, IntKind.signed, IntKind.bits] at * <;> omega
    · have := h2 (by omega); omega
  · by_cases h : 0 ≤ a
    · have := h1 h; omega
    · have := h2 (by omega)
      cases k <;> simp [IntKind.min, IntKind.max, IntKind.signed, IntKind.bits] at * <;> omega

theorem toList_ba (s : Bytes) : (ba s).toList = s := by
  rw [ByteArray.toList_eq]; simp [ba]

theorem size_ba (s : Bytes) : (ba s).size = s.length := by simp [ba, ByteArray.size]

end AL
