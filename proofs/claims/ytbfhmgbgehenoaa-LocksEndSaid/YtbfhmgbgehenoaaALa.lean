/- An abstract logic, 0: what is known of the program's own variables (here: nothing). No condition. An abstract logic over the kit's 'Code.wp': abstract cells and values, owned objects, their meaning in a world, and that the meaning is kept when the world grows. No condition. An abstract logic, 2: the operations that only compute or read: what they yield on abstract values, and that the model's run yields it. No condition. An abstract logic, 3: the model's run of the operations that compute. No condition. An abstract logic, 4: loads, parts, places. No condition. An abstract logic, 5: indexing, slicing, fields, lengths, conversions. No condition. An abstract logic, 6: slices, lengths, conversions, struct values, equality; all value operations together. No condition. An abstract logic, 7: struct values built and compared; 'pick'; the operations that only compute or read, all of them. No condition. An abstract logic, 8: what is kept when the world grows; the contract of a function; a slot set; an owned slice given up. No condition.  -/
import Derived.WalkKit
namespace AL
open Go
set_option linter.unusedVariables false

def GlobOk (I : Nat → Prop) (w : World) : Prop := True
theorem GlobOk.mono {I I' : Nat → Prop} {w w' : World} (hI : ∀ b, I b → I' b) (hw : ∀ b, I b → w'.heap[b]? = w.heap[b]?) (h : GlobOk I w) : GlobOk I' w' := trivial
end AL
namespace AL
open Go
set_option linter.unusedVariables false

abbrev Bytes := List UInt8

/-- A shared cell: data that nobody changes any more. -/
inductive SC : Type 1
  | any
  | int (k : IntKind) (n : Int)
  | bool (b : Bool)
  | str (s : Bytes)
  | nilsl
  | sl (k : Nat) (α : Type) (d : α) (row : α → Nat → SC) (l : List α)
  | nilptr
  | val (v : Value)
  | ref (n : Nat) (f : Nat → SC)
  | nn (c : SC)

def ba (s : Bytes) : ByteArray := ⟨s.toArray⟩

/-- A number is one of its kind. -/
def InR (k : IntKind) (n : Int) : Prop := k.min ≤ n ∧ n ≤ k.max
instance (k n) : Decidable (InR k n) := inferInstanceAs (Decidable (_ ∧ _))

/-- What a shared cell says of a value: it is read in the blocks of I. -/
def MS (I : Nat → Prop) (w : World) : SC → Value → Prop
  | .any, v => v.oneCell' = true
  | .int k n, v => v = .int k n ∧ InR k n
  | .bool b, v => v = .bool b
  | .str s, v => v = .string (ba s) ∧ s.length ≤ maxLen
  | .nilsl, v => v = .slice none 0 0
  | .nilptr, v => v = .pointer none
  | .nn c, v => MS I w c v ∧ ∃ a n cap, v = .slice (some a) n cap
  | .val u, v => v = u ∧ u.oneCell' = true
  | .ref n f, v => ∃ b off, v = .pointer (some ⟨b, off, none⟩) ∧ I b ∧ ∀ i, i < n → ∃ u, w.cell? ⟨b, off + i, none⟩ = some u ∧ MS I w (f i) u
  | .sl k _ _ row l, v => ∃ a cap, v = .slice a l.length cap ∧ l.length ≤ cap ∧ cap ≤ maxLen ∧
      ((l = [] ∧ (a = none → cap = 0)) ∨ ∃ b off, a = some ⟨b, off, none⟩ ∧ I b ∧
        ∀ j x, l[j]? = some x → ∀ i, i < k → ∃ u, w.cell? ⟨b, off + j * k + i, none⟩ = some u ∧ MS I w (row x i) u)

theorem MS.one {I w c v} (h : MS I w c v) : v.oneCell' = true := by
  cases c <;> simp only [MS] at h
  · exact h
  all_goals first | (subst h; rfl) | (obtain ⟨a, cap, rfl, _⟩ := h; rfl) | (obtain ⟨b, off, rfl, _⟩ := h; rfl) | (obtain ⟨_, a, n, cap, rfl⟩ := h; rfl) | (obtain ⟨rfl, h⟩ := h; first | rfl | exact h)

theorem MS.mono {I I' : Nat → Prop} {w w' : World} (hI : ∀ b, I b → I' b) (hw : ∀ b, I b → w'.heap[b]? = w.heap[b]?) :
    ∀ {c v}, MS I w c v → MS I' w' c v := by
  intro c
  induction c with
  | sl k α d row l ih =>
    intro v h
    simp only [MS] at h ⊢
    obtain ⟨a, cap, rfl, h1, h2, h3⟩ := h
    refine ⟨a, cap, rfl, h1, h2, ?_⟩
    rcases h3 with h3 | ⟨b, off, rfl, hb, h3⟩
    · exact .inl h3
    · refine .inr ⟨b, off, rfl, hI b hb, fun j x hx i hi => ?_⟩
      obtain ⟨u, hu, hm⟩ := h3 j x hx i hi
      exact ⟨u, by rw [World.cell?_of_block (w := w) (hw b hb)]; exact hu, ih _ _ hm⟩
  | ref n f ih =>
    intro v h
    simp only [MS] at h ⊢
    obtain ⟨b, off, rfl, hb, h3⟩ := h
    refine ⟨b, off, rfl, hI b hb, fun i hi => ?_⟩
    obtain ⟨u, hu, hm⟩ := h3 i hi
    exact ⟨u, by rw [World.cell?_of_block (w := w) (hw b hb)]; exact hu, ih _ hm⟩
  | nn c ih => intro v h; exact ⟨ih h.1, h.2⟩
  | _ => intro v h; simpa only [MS] using h

/-- What a captured variable is: a shared cell, or a pointer to an owned object. -/
inductive Cap : Type 1
  | s (c : SC)
  | ptr (id off : Nat)

/-- A cell of the frame or of an owned object. -/
inductive AC : Type 1
  | s (c : SC)
  | ptr (id off : Nat)
  | own (id : Nat)
  | fn (f : FuncId) (caps : List Cap)

/-- The meaning of the names: which blocks are shared, the block of an id, the header of an owned slice. -/
structure Ctx where
  I : Nat → Prop
  ρ : Nat → Nat
  η : Nat → Value

def MCap (Γ : Ctx) (w : World) : Cap → Value → Prop
  | .s c, v => MS Γ.I w c v
  | .ptr id off, v => v = .pointer (some ⟨Γ.ρ id, off, none⟩)

def MCaps (Γ : Ctx) (w : World) : List Cap → List Value → Prop
  | [], [] => True
  | c :: cs, v :: vs => MCap Γ w c v ∧ MCaps Γ w cs vs
  | _, _ => False

def MC (Γ : Ctx) (w : World) : AC → Value → Prop
  | .s c, v => MS Γ.I w c v
  | .ptr id off, v => v = .pointer (some ⟨Γ.ρ id, off, none⟩)
  | .own id, v => v = Γ.η id ∧ v.oneCell' = true
  | .fn f caps, v => ∃ cs : Array Value, v = .func (.func f) #[] cs ∧ MCaps Γ w caps cs.toList

theorem MC.one {Γ w c v} (h : MC Γ w c v) : v.oneCell' = true := by
  cases c <;> simp only [MC] at h
  · exact h.one
  · subst h; rfl
  · exact h.2
  · obtain ⟨cs, rfl, _⟩ := h; rfl

def MCs (Γ : Ctx) (w : World) : List AC → List Value → Prop
  | [], [] => True
  | c :: cs, v :: vs => MC Γ w c v ∧ MCs Γ w cs vs
  | _, _ => False

/-- A component of a tuple, or a plain value: one cell, or a struct or array by value. -/
inductive TV : Type 1
  | c (a : AC)
  | agg (l : List AC)
  | arr (k n : Nat) (α : Type) (d : α) (row : α → Nat → SC) (l : List α)

def MT (Γ : Ctx) (w : World) : TV → Value → Prop
  | .c a, v => MC Γ w a v
  | .agg l, v => ∃ cs : Array Value, v = .agg cs ∧ MCs Γ w l cs.toList
  | .arr k n _ _ row l, v => ∃ cs : Array Value, v = .agg cs ∧ l.length = n ∧ cs.size = n * k ∧
      ∀ j x, l[j]? = some x → ∀ i, i < k → ∃ u, cs[j * k + i]? = some u ∧ MS Γ.I w (row x i) u

def MTs (Γ : Ctx) (w : World) : List TV → List Value → Prop
  | [], [] => True
  | c :: cs, v :: vs => MT Γ w c v ∧ MTs Γ w cs vs
  | _, _ => False

/-- What a slot holds. 'ro': a pointer to n shared cells; 'oel': a pointer to cell j of element i of an owned slice or array; 'when': known under a condition. -/
inductive AV : Type 1
  | any
  | t (x : TV)
  | tup (l : List TV)
  | ro (n : Nat) (f : Nat → SC)
  | oel (id : Nat) (i : Nat) (j : Nat)
  | whn (p : Prop) (x : AV)

/-- An owned object. -/
inductive AObj : Type 1
  | row (cells : List AC)
  | grow (T : TypeId) (k : Nat) (α : Type) (d : α) (row : α → Nat → SC) (l : List α)
  | arr (k n : Nat) (α : Type) (d : α) (row : α → Nat → SC) (l : List α)
  | iter (s : Bytes) (pos : Nat)
  | hole (T : TypeId) (k : Nat) (α : Type) (d : α) (row : α → Nat → SC) (l : List α) (i : Nat) (e : Nat)

/-- The width of an owned row of elements (for 'oel'). -/
def AObj.width : AObj → Nat
  | .grow _ k _ _ _ _ => k
  | .arr k _ _ _ _ _ => k
  | .hole _ k _ _ _ _ _ _ => k
  | _ => 0

def MV (Γ : Ctx) (obj : Nat → Option AObj) (w : World) : AV → Value → Prop
  | .any, _ => True
  | .t x, v => MT Γ w x v
  | .tup l, v => ∃ vs : Array Value, v = .tuple vs ∧ MTs Γ w l vs.toList
  | .ro n f, v => ∃ b off, v = .pointer (some ⟨b, off, none⟩) ∧ Γ.I b ∧ ∀ i, i < n → ∃ u, w.cell? ⟨b, off + i, none⟩ = some u ∧ MS Γ.I w (f i) u
  | .oel id i j, v => ∃ k, v = .pointer (some ⟨Γ.ρ id, i * k + j, none⟩) ∧ ∀ o, obj id = some o → o.width = k
  | .whn p x, v => (p → MV Γ obj w x v) ∧ (¬ p → v = undef)

/-- The block that an owned object stands in (the header of an owned slice may be nil: none). -/
def fp (Γ : Ctx) (id : Nat) (ob : AObj) (b : Nat) : Prop :=
  Γ.ρ id = b ∧ (match ob with | .grow .. => Γ.η id ≠ .slice none 0 0 | _ => True)

def MO (Γ : Ctx) (w : World) (id : Nat) : AObj → Prop
  | .row cells => ∃ (cs : Array Value) (T : TypeId), w.heap[Γ.ρ id]? = some (.cells cs T (0, 0)) ∧ MCs Γ w cells cs.toList
  | .grow T k α d row l => (Γ.η id = .slice none 0 0 ∧ l = []) ∨
      ∃ (cap : Nat) (cur : Array Value), Γ.η id = .slice (some ⟨Γ.ρ id, 0, none⟩) l.length cap ∧ w.heap[Γ.ρ id]? = some (.cells cur T (0, 0)) ∧
        l.length ≤ cap ∧ cap ≤ maxLen ∧ cur.size = cap * k ∧
        ∀ j x, l[j]? = some x → ∀ i, i < k → ∃ u, cur[j * k + i]? = some u ∧ MS Γ.I w (row x i) u
  | .arr k n α d row l => ∃ (cur : Array Value) (T : TypeId), w.heap[Γ.ρ id]? = some (.cells cur T (0, 0)) ∧ l.length = n ∧ cur.size = n * k ∧
        ∀ j x, l[j]? = some x → ∀ i, i < k → ∃ u, cur[j * k + i]? = some u ∧ MS Γ.I w (row x i) u
  | .iter s pos => w.heap[Γ.ρ id]? = some (.stringIter (ba s) pos)
  | .hole T k α d row l i e => ∃ (cap : Nat) (cur : Array Value), Γ.η id = .slice (some ⟨Γ.ρ id, 0, none⟩) l.length cap ∧ w.heap[Γ.ρ id]? = some (.cells cur T (0, 0)) ∧
        l.length ≤ cap ∧ cap ≤ maxLen ∧ cur.size = cap * k ∧ (cur[i * k]? = some (Γ.η e) ∧ (Γ.η e).oneCell' = true) ∧
        ∀ j x, l[j]? = some x → ∀ c, c < k → ¬ (j = i ∧ c = 0) → ∃ u, cur[j * k + c]? = some u ∧ MS Γ.I w (row x c) u

structure HeapOk (Γ : Ctx) (obj : Nat → Option AObj) (w : World) : Prop where
  objs : ∀ id ob, obj id = some ob → MO Γ w id ob
  lt : ∀ id ob b, obj id = some ob → fp Γ id ob b → b < w.heap.size ∧ ¬ Γ.I b
  inj : ∀ id ob id' ob' b, obj id = some ob → obj id' = some ob' → fp Γ id ob b → fp Γ id' ob' b → id = id'
  ilt : ∀ b, Γ.I b → b < w.heap.size
  glob : GlobOk Γ.I w

/-- What was there when the call began: the world, the blocks that the call may not touch, the blocks that are shared. -/
structure Gd where
  w : World
  pr : Nat → Prop
  I : Nat → Prop
  ρ : Nat → Nat
  η : Nat → Value
  df : List Deferred

structure GOk (G : Gd) (Γ : Ctx) (obj : Nat → Option AObj) (w : World) : Prop where
  os : w.os = G.w.os
  tape : w.tape = G.w.tape
  output : w.output = G.w.output
  size : G.w.heap.size ≤ w.heap.size
  prlt : ∀ b, G.pr b → b < G.w.heap.size
  keep : ∀ b, G.pr b → w.heap[b]? = G.w.heap[b]?
  sub : ∀ b, G.I b → Γ.I b
  bak : ∀ b, G.pr b → Γ.I b → G.I b
  own : ∀ id ob b, obj id = some ob → fp Γ id ob b → ¬ G.pr b

/-- An abstract state: n slots, what each holds, the owned objects. -/
structure AS where
  n : Nat
  reg : Nat → AV
  obj : Nat → Option AObj

structure Conc (G : Gd) (Γ : Ctx) (s : AS) (a : Act) (w : World) : Prop where
  size : a.tmps.size = s.n
  defers : a.defers = G.df
  regs : ∀ t, MV Γ s.obj w (s.reg t) (a.tmps.getD t undef)
  heap : HeapOk Γ s.obj w
  g : GOk G Γ s.obj w
  ids : ∀ id, s.n ≤ id → Γ.ρ id = G.ρ id ∧ Γ.η id = G.η id
end AL
namespace AL
open Go
set_option linter.unusedVariables false

/-- A constant of the text as an abstract value. -/
def liftS : Value → SC
  | .int k n => if InR k n then .int k n else .any
  | .bool b => .bool b
  | .string s => if s.size ≤ maxLen then .str s.data.toList else .any
  | .slice none 0 0 => .nilsl
  | .pointer none => .nilptr
  | .nilFunc => .val .nilFunc
  | .nilIface => .val .nilIface
  | _ => .any

def liftsOk : List Value → Bool
  | [] => true
  | v :: l => v.oneCell' && liftsOk l

def lift : Value → AV
  | .agg cs => if liftsOk cs.toList then .t (.agg (cs.toList.map fun v => .s (liftS v))) else .any
  | .tuple _ => .any
  | v => .t (.c (.s (liftS v)))

theorem liftS_ok {I w v} (h : v.oneCell' = true) : MS I w (liftS v) v := by
  unfold liftS
  split
  · split
    · exact ⟨rfl, by assumption⟩
    · exact h
  · rfl
  · split
    · exact ⟨rfl, by rw [Array.length_toList]; assumption⟩
    · exact h
  all_goals first | rfl | exact ⟨rfl, rfl⟩ | exact h

theorem liftsOk_ok {Γ w} : ∀ (l : List Value), liftsOk l = true → MCs Γ w (l.map fun v => .s (liftS v)) l
  | [], _ => trivial
  | v :: l, h => by
    simp only [liftsOk, Bool.and_eq_true] at h
    exact ⟨liftS_ok h.1, liftsOk_ok l h.2⟩

theorem lift_ok {Γ obj w} (v : Value) : MV Γ obj w (lift v) v := by
  unfold lift
  split
  · split
    · exact ⟨_, rfl, liftsOk_ok _ ‹_›⟩
    · trivial
  · trivial
  · rename_i h1 h2
    refine liftS_ok ?_
    cases v <;> first | rfl | exact absurd rfl (h1 _) | exact absurd rfl (h2 _)

def AS.val (s : AS) : Operand → AV
  | .tmp t => s.reg t
  | .const v => lift v
  | .func f => .t (.c (.fn f []))
  | .global _ => .any

theorem val_ok {G Γ s a w} (h : Conc G Γ s a w) (x : Operand) : MV Γ s.obj w (s.val x) (a.eval x) := by
  cases x with
  | tmp t => exact h.regs t
  | const v => exact lift_ok v
  | global g => trivial
  | func f => exact ⟨#[], rfl, trivial⟩

/-- The conditions under which a value is known; and the value. -/
def AV.cond : AV → List Prop
  | .whn p x => p :: x.cond
  | _ => []
def AV.strip : AV → AV
  | .whn _ x => x.strip
  | v => v

def allP : List Prop → Prop
  | [] => True
  | [c] => c
  | c :: d :: l => c ∧ allP (d :: l)

theorem allP_cons {c : Prop} {l : List Prop} : allP (c :: l) ↔ c ∧ allP l := by
  cases l <;> simp [allP]
theorem allP_append {l m : List Prop} : allP (l ++ m) ↔ allP l ∧ allP m := by
  induction l with
  | nil => simp [allP]
  | cons c l ih => rw [List.cons_append, allP_cons, allP_cons, ih, and_assoc]

theorem strip_ok {Γ obj w} : ∀ {x : AV} {v}, MV Γ obj w x v → allP x.cond → MV Γ obj w x.strip v := by
  intro x
  induction x with
  | whn p x ih =>
    intro v h hc
    simp only [AV.cond, allP_cons] at hc
    exact ih (h.1 hc.1) hc.2
  | _ => intro v h _; exact h

/-! ### Arithmetic -/
def arith (k : IntKind) (n : Int) : List Prop × SC := if k.signed then ([InR k n], .int k n) else ([], .int k (k.wrap n))

theorem wrap_of_inR {k : IntKind} {n : Int} (h : InR k n) : k.wrap n = n := by
  obtain ⟨h1, h2⟩ := h
  cases k <;> simp [IntKind.min, IntKind.max, IntKind.signed, IntKind.bits] at h1 h2 <;> simp [IntKind.wrap, IntKind.signed, IntKind.bits] <;> omega
theorem inR_wrap (k : IntKind) (n : Int) : InR k (k.wrap n) := by
  cases k <;> simp [InR, IntKind.min, IntKind.max, IntKind.wrap, IntKind.signed, IntKind.bits] <;> (try split) <;> omega

theorem arith_ok {I w} (k : IntKind) (n : Int) (h : allP (arith k n).1) : MS I w (arith k n).2 (.int k (k.wrap n)) := by
  unfold arith at *
  split at h
  · rename_i hk; rw [if_pos hk]; exact ⟨by rw [wrap_of_inR h], h⟩
  · rename_i hk; rw [if_neg hk]; exact ⟨rfl, inR_wrap _ _⟩

def evBin (op : BinOp) : SC → SC → Option (List Prop × SC)
  | .int k a, .int k' b =>
    match op with
    | .shl => some (([0 ≤ b] ++ (arith k (a * 2 ^ (min b.toNat k.bits))).1), (arith k (a * 2 ^ (min b.toNat k.bits))).2)
    | .shr => some ([0 ≤ b], .int k (a.fdiv (2 ^ (min b.toNat k.bits))))
    | op => if k = k' then
        match op with
        | .add => some (arith k (a + b))
        | .sub => some (arith k (a - b))
        | .mul => some (arith k (a * b))
        | .quo => some ([b ≠ 0] ++ (arith k (a.tdiv b)).1, (arith k (a.tdiv b)).2)
        | .rem => some ([b ≠ 0], .int k (a.tmod b))
        | .and => some ([], .int k (k.wrap (BitVec.ofInt k.bits a &&& BitVec.ofInt k.bits b).toNat))
        | .or => some ([], .int k (k.wrap (BitVec.ofInt k.bits a ||| BitVec.ofInt k.bits b).toNat))
        | .xor => some ([], .int k (k.wrap (BitVec.ofInt k.bits a ^^^ BitVec.ofInt k.bits b).toNat))
        | .andNot => some ([], .int k (k.wrap (BitVec.ofInt k.bits a &&& ~~~(BitVec.ofInt k.bits b)).toNat))
        | .eql => some ([], .bool (decide (a = b)))
        | .neq => some ([], .bool (!decide (a = b)))
        | .lss => some ([], .bool (decide (a < b)))
        | .leq => some ([], .bool (decide (a ≤ b)))
        | .gtr => some ([], .bool (decide (b < a)))
        | .geq => some ([], .bool (decide (b ≤ a)))
        | _ => none
      else none
  | .str a, .str b =>
    match op with
    | .add => some ([a.length + b.length ≤ maxLen], .str (a ++ b))
    | .eql => some ([], .bool (decide (a = b)))
    | .neq => some ([], .bool (!decide (a = b)))
    | .lss => some ([], .bool (Op.bytesLess a b))
    | .leq => some ([], .bool (Op.bytesLess a b || decide (a = b)))
    | .gtr => some ([], .bool (!(Op.bytesLess a b || decide (a = b))))
    | .geq => some ([], .bool (!Op.bytesLess a b))
    | _ => none
  | _, _ => none

theorem tmod_inR {k : IntKind} {a b : Int} (ha : InR k a) (hb : InR k b) : InR k (a.tmod b) := by
  have h1 : -(a.natAbs : Int) ≤ a.tmod b ∧ a.tmod b ≤ a.natAbs := by
    have := Int.natAbs_tmod a b
    have h2 : (a.tmod b).natAbs ≤ a.natAbs := by rw [this]; exact Nat.mod_le _ _
    omega
  have h0 : 0 ≤ a → 0 ≤ a.tmod b := fun h => Int.tmod_nonneg b h
  have h3 : a ≤ 0 → a.tmod b ≤ 0 := fun h => by
    have h4 : 0 ≤ (-a).tmod b := Int.tmod_nonneg b (by omega)
    rw [Int.neg_tmod] at h4
    omega
  obtain ⟨ha1, ha2⟩ := ha
  constructor
  · by_cases h : 0 ≤ a
    · have := h0 h
      cases k <;> simp [IntKind.min, IntKind.max, IntKind.signed, IntKind.bits] at * <;> omega
    · omega
  · by_cases h : 0 ≤ a
    · omega
    · have := h3 (by omega)
      cases k <;> simp [IntKind.min, IntKind.max, IntKind.signed, IntKind.bits] at * <;> omega

theorem fdiv_inR {k : IntKind} {a : Int} (n : Nat) (ha : InR k a) : InR k (a.fdiv (2 ^ n)) := by
  have hp : (1 : Int) ≤ 2 ^ n := by
    have : (1 : Nat) ≤ 2 ^ n := Nat.one_le_two_pow
    exact_mod_cast this
  rw [Int.fdiv_eq_ediv_of_nonneg _ (by omega)]
  have h1 : 0 ≤ a → 0 ≤ a / 2 ^ n ∧ a / 2 ^ n ≤ a := fun h => ⟨Int.ediv_nonneg h (by omega), Int.ediv_le_self _ h⟩
  have h2 : a < 0 → a ≤ a / 2 ^ n ∧ a / 2 ^ n < 0 := fun h => by
    constructor
    · have h5 := Int.le_ediv_of_mul_le (a := a) (b := a) (c := 2 ^ n) (by omega) (by
        have := Int.mul_le_mul_of_nonpos_left (show a ≤ 0 by omega) hp
        omega)
      exact h5
    · exact Int.ediv_neg_of_neg_of_pos h (by omega)
  obtain ⟨ha1, ha2⟩ := ha
  constructor
  · by_cases h : 0 ≤ a
    · have := h1 h
      cases k <;> simp [IntKind.min, IntKind.max, IntKind.signed, IntKind.bits] at * <;> omega
    · have := h2 (by omega); omega
  · by_cases h : 0 ≤ a
    · have := h1 h; omega
    · have := h2 (by omega)
      cases k <;> simp [IntKind.min, IntKind.max, IntKind.signed, IntKind.bits] at * <;> omega

theorem toList_ba (s : Bytes) : (ba s).toList = s := by
  rw [ByteArray.toList_eq]; simp [ba]

theorem size_ba (s : Bytes) : (ba s).size = s.length := by simp [ba, ByteArray.size]

end AL
namespace AL
open Go
set_option linter.unusedVariables false

@[local simp] theorem run_pure' {α} (P : Program) (a : α) (w : World) : (pure a : Sem α).run P w = .ok a w := rfl

theorem ba_append (a b : Bytes) : ba a ++ ba b = ba (a ++ b) := by
  apply ByteArray.ext
  simp [ba]

theorem bin_ok {P : Program} {I w x y a b op cs r} {T : TypeId} (hx : MS I w x a) (hy : MS I w y b) (h : evBin op x y = some (cs, r)) (hc : allP cs) :
    ∃ v, (Go.binOp op T a b).run P w = .ok v w ∧ MS I w r v := by
  unfold evBin at h
  split at h
  · rename_i k m k' n
    obtain ⟨rfl, ha⟩ := hx
    obtain ⟨rfl, hb⟩ := hy
    cases op
    case shl =>
      simp only [Option.some.injEq, Prod.mk.injEq] at h
      obtain ⟨rfl, rfl⟩ := h
      rw [allP_append] at hc
      obtain ⟨h0, h1⟩ := hc
      have h0 : (0 : Int) ≤ n := h0
      refine ⟨_, ?_, arith_ok k _ h1⟩
      simp [Go.binOp, Op.shift, show ¬ n < 0 by omega]
    case shr =>
      simp only [Option.some.injEq, Prod.mk.injEq] at h
      obtain ⟨rfl, rfl⟩ := h
      have h0 : (0 : Int) ≤ n := hc
      refine ⟨_, ?_, rfl, fdiv_inR (min n.toNat k.bits) ha⟩
      simp [Go.binOp, Op.shift, show ¬ n < 0 by omega]
    all_goals
      simp only at h
      have hk : k = k' := Decidable.byContradiction fun hk => by rw [if_neg hk] at h; cases h
      subst hk
      rw [if_pos rfl] at h
      simp only [Option.some.injEq, Prod.mk.injEq] at h
    case add =>
      have h1 : (arith k (m + n)).1 = cs := by rw [h]
      have h2 : (arith k (m + n)).2 = r := by rw [h]
      subst h1 h2
      exact ⟨_, by simp [Go.binOp, Op.intArith], arith_ok k _ hc⟩
    case sub =>
      have h1 : (arith k (m - n)).1 = cs := by rw [h]
      have h2 : (arith k (m - n)).2 = r := by rw [h]
      subst h1 h2
      exact ⟨_, by simp [Go.binOp, Op.intArith], arith_ok k _ hc⟩
    case mul =>
      have h1 : (arith k (m * n)).1 = cs := by rw [h]
      have h2 : (arith k (m * n)).2 = r := by rw [h]
      subst h1 h2
      exact ⟨_, by simp [Go.binOp, Op.intArith], arith_ok k _ hc⟩
    case quo =>
      obtain ⟨rfl, rfl⟩ := h
      rw [allP_append] at hc
      obtain ⟨h0, h1⟩ := hc
      have h0 : n ≠ 0 := h0
      exact ⟨_, by simp [Go.binOp, Op.intDiv, h0], arith_ok k _ h1⟩
    case rem =>
      obtain ⟨rfl, rfl⟩ := h
      have h0 : n ≠ 0 := hc
      exact ⟨_, by simp [Go.binOp, Op.intDiv, h0], rfl, tmod_inR ha hb⟩
    case and => obtain ⟨rfl, rfl⟩ := h; exact ⟨_, by simp [Go.binOp, Op.intBits], rfl, inR_wrap _ _⟩
    case or => obtain ⟨rfl, rfl⟩ := h; exact ⟨_, by simp [Go.binOp, Op.intBits], rfl, inR_wrap _ _⟩
    case xor => obtain ⟨rfl, rfl⟩ := h; exact ⟨_, by simp [Go.binOp, Op.intBits], rfl, inR_wrap _ _⟩
    case andNot => obtain ⟨rfl, rfl⟩ := h; exact ⟨_, by simp [Go.binOp, Op.intBits], rfl, inR_wrap _ _⟩
    case eql => obtain ⟨rfl, rfl⟩ := h; exact ⟨_, by simp [Go.binOp, Op.intCmp]; rfl, rfl⟩
    case neq => obtain ⟨rfl, rfl⟩ := h; exact ⟨_, by simp [Go.binOp, Op.intCmp]; rfl, rfl⟩
    case lss => obtain ⟨rfl, rfl⟩ := h; exact ⟨_, by simp [Go.binOp, Op.intCmp], rfl⟩
    case leq => obtain ⟨rfl, rfl⟩ := h; exact ⟨_, by simp [Go.binOp, Op.intCmp], rfl⟩
    case gtr => obtain ⟨rfl, rfl⟩ := h; exact ⟨_, by simp [Go.binOp, Op.intCmp], rfl⟩
    case geq => obtain ⟨rfl, rfl⟩ := h; exact ⟨_, by simp [Go.binOp, Op.intCmp], rfl⟩
  · rename_i s t
    obtain ⟨rfl, ha⟩ := hx
    obtain ⟨rfl, hb⟩ := hy
    have hd : ∀ s t : Bytes, (s == t) = decide (s = t) := fun s t => by rw [Bool.eq_iff_iff]; simp
    cases op <;> simp only [Option.some.injEq, Prod.mk.injEq, reduceCtorEq] at h <;> obtain ⟨rfl, rfl⟩ := h
    case add =>
      have h0 : s.length + t.length ≤ maxLen := hc
      refine ⟨_, ?_, rfl, by rw [List.length_append]; exact h0⟩
      have h1 : ((ba s).size : Int) + ((ba t).size : Int) ≤ 9223372036854775807 := by
        rw [size_ba, size_ba]; simp only [maxLen] at h0; omega
      simp [Go.binOp, Op.stringOp, h1, ba_append, IntKind.max, IntKind.signed, IntKind.bits]
    case eql => exact ⟨_, by simp only [Go.binOp, Op.stringOp, toList_ba, hd]; rfl, rfl⟩
    case neq => exact ⟨_, by simp only [Go.binOp, Op.stringOp, toList_ba, hd]; rfl, rfl⟩
    case lss => exact ⟨_, by simp only [Go.binOp, Op.stringOp, toList_ba]; rfl, rfl⟩
    case leq => exact ⟨_, by simp only [Go.binOp, Op.stringOp, toList_ba, hd]; rfl, rfl⟩
    case gtr => exact ⟨_, by simp only [Go.binOp, Op.stringOp, toList_ba, hd]; rfl, rfl⟩
    case geq => exact ⟨_, by simp only [Go.binOp, Op.stringOp, toList_ba]; rfl, rfl⟩
  · cases h

theorem guard_ok {P : Program} {I w x y a b op cs r} {T : TypeId} {ox oy : Operand} (hx : MS I w x a) (hy : MS I w y b) (h : evBin op x y = some (cs, r)) :
    (eqGuard op T ox oy a b).run P w = .ok () w := by
  unfold evBin at h
  split at h
  · obtain ⟨rfl, _⟩ := hx
    obtain ⟨rfl, _⟩ := hy
    unfold eqGuard
    split <;> simp
  · obtain ⟨rfl, _⟩ := hx
    obtain ⟨rfl, _⟩ := hy
    unfold eqGuard
    split <;> simp
  · cases h
end AL
namespace AL
open Go
set_option linter.unusedVariables false

theorem MCs.length {Γ w} : ∀ {l : List AC} {vs : List Value}, MCs Γ w l vs → vs.length = l.length
  | [], [], _ => rfl
  | _ :: l, _ :: vs, h => by simp [MCs.length h.2]
  | [], _ :: _, h => h.elim
  | _ :: _, [], h => h.elim

theorem MCs.get {Γ w} : ∀ {l : List AC} {vs : List Value}, MCs Γ w l vs → ∀ {i : Nat} {c}, l[i]? = some c → ∃ v, vs[i]? = some v ∧ MC Γ w c v
  | [], [], _, i, c, hc => by simp at hc
  | a :: l, v :: vs, h, 0, c, hc => by simp at hc; subst hc; exact ⟨v, rfl, h.1⟩
  | a :: l, v :: vs, h, i + 1, c, hc => by simp at hc; obtain ⟨u, hu, hm⟩ := MCs.get h.2 hc; exact ⟨u, by simpa using hu, hm⟩
  | [], _ :: _, h, _, _, _ => h.elim
  | _ :: _, [], h, _, _, _ => h.elim

theorem MCs.mk {Γ w} : ∀ {l : List AC} {vs : List Value}, vs.length = l.length → (∀ (i : Nat) c v, l[i]? = some c → vs[i]? = some v → MC Γ w c v) → MCs Γ w l vs
  | [], [], _, _ => trivial
  | c :: l, v :: vs, h, hh => ⟨hh 0 c v rfl rfl, MCs.mk (by simpa using h) fun i c v h1 h2 => hh (i + 1) c v (by simpa using h1) (by simpa using h2)⟩
  | [], _ :: _, h, _ => by simp at h
  | _ :: _, [], h, _ => by simp at h

theorem MCs.drop {Γ w} {l : List AC} {vs : List Value} (h : MCs Γ w l vs) (n : Nat) : MCs Γ w (l.drop n) (vs.drop n) := by
  refine MCs.mk (by simp [h.length]) fun i c v h1 h2 => ?_
  rw [List.getElem?_drop] at h1 h2
  obtain ⟨u, hu, hm⟩ := h.get h1
  rw [h2] at hu; cases hu; exact hm

theorem MCs.take {Γ w} {l : List AC} {vs : List Value} (h : MCs Γ w l vs) (n : Nat) : MCs Γ w (l.take n) (vs.take n) := by
  refine MCs.mk (by simp [h.length]) fun i c v h1 h2 => ?_
  by_cases hi : i < n
  · rw [List.getElem?_take_of_lt hi] at h1 h2
    obtain ⟨u, hu, hm⟩ := h.get h1
    rw [h2] at hu; cases hu; exact hm
  · rw [List.getElem?_take, if_neg hi] at h1; cases h1

theorem MCs.append {Γ w} {l m : List AC} {vs us : List Value} (h : MCs Γ w l vs) (h' : MCs Γ w m us) : MCs Γ w (l ++ m) (vs ++ us) := by
  refine MCs.mk (by simp [h.length, h'.length]) fun i c v h1 h2 => ?_
  by_cases hi : i < l.length
  · rw [List.getElem?_append_left hi] at h1
    rw [List.getElem?_append_left (by rw [h.length]; exact hi)] at h2
    obtain ⟨u, hu, hm⟩ := h.get h1
    rw [h2] at hu; cases hu; exact hm
  · rw [List.getElem?_append_right (by omega)] at h1
    rw [List.getElem?_append_right (by rw [h.length]; omega), h.length] at h2
    obtain ⟨u, hu, hm⟩ := h'.get h1
    rw [h2] at hu; cases hu; exact hm

theorem MCs.one {Γ w} {l : List AC} {vs : List Value} (h : MCs Γ w l vs) : ∀ v ∈ vs, v.oneCell' = true := by
  intro v hv
  obtain ⟨i, hi⟩ := List.getElem?_of_mem hv
  have hl : i < l.length := by rw [← h.length]; exact (List.getElem?_eq_some_iff.1 hi).1
  obtain ⟨u, hu, hm⟩ := h.get (List.getElem?_eq_getElem hl)
  rw [hi] at hu; cases hu; exact hm.one

def aggD : TypeDesc → Bool
  | .struct _ | .array _ _ => true
  | _ => false

theorem run_isAgg {P : Program} {T d w} (h : P.underlying T = some d) : (isAgg T).run P w = .ok (aggD d) w := by
  cases d <;> simp [isAgg, run_underlying h, aggD]

theorem run_sizeOf' {P : Program} {T i w} (h : P.info? T = some i) : (Go.sizeOf T).run P w = Result.ok i.size w := by
  simp [Go.sizeOf, typeInfo, h]

theorem add_mk (b o n : Nat) : (⟨b, o, none⟩ : Addr).add n = ⟨b, o + n, none⟩ := by
  unfold Addr.add; split <;> simp_all

/-- The value that is read where n cells stand. -/
def gather (d : TypeDesc) (cs : List AC) : Option TV := if aggD d then some (.agg cs) else match cs with | [c] => some (.c c) | _ => none

theorem run_load_cells {P : Program} {Γ : Ctx} {w w0 : World} {T d i b o r} {cs : List AC} {vs : List Value} (hu : P.underlying T = some d) (hi : P.info? T = some i) (hl : cs.length = i.size)
    (hm : MCs Γ w0 cs vs) (hv : ∀ j v, vs[j]? = some v → w.cell? ⟨b, o + j, none⟩ = some v) (hg : gather d cs = some r) :
    ∃ v, (loadVar T ⟨b, o, none⟩).run P w = .ok v w ∧ MT Γ w0 r v := by
  unfold gather at hg
  have hlen := hm.length
  split at hg
  · rename_i ha
    cases hg
    have h1 := run_loadCells_list (P := P) w ⟨b, o, none⟩ vs (fun j v h => by rw [add_mk]; exact hv j v h)
    rw [hlen, hl] at h1
    exact ⟨.agg vs.toArray, by simp [loadVar, run_isAgg hu, ha, run_sizeOf' hi, h1], _, rfl, by simpa using hm⟩
  · rename_i ha
    split at hg
    · rename_i c
      cases hg
      obtain ⟨v, hv1, hv2⟩ := hm.get (i := 0) rfl
      refine ⟨v, ?_, hv2⟩
      have := hv 0 v hv1
      simp [loadVar, run_isAgg hu, ha, load, Sem.run, this] at this ⊢
    · cases hg

theorem cell_of_heap {w : World} {b T fr} {cur : Array Value} (h : w.heap[b]? = some (.cells cur T fr)) (o : Nat) : w.cell? ⟨b, o, none⟩ = cur[o]? := by
  simp [World.cell?, h]

/-- A list of shared cells as cells. -/
def ofS (k : Nat) (f : Nat → SC) : List AC := (List.range k).map fun i => .s (f i)

theorem length_ofS (k f) : (ofS k f).length = k := by simp [ofS]
theorem get_ofS {k f i c} (h : (ofS k f)[i]? = some c) : i < k ∧ c = .s (f i) := by
  simp only [ofS, List.getElem?_map, Option.map_eq_some_iff] at h
  obtain ⟨a, ha, rfl⟩ := h
  rw [List.getElem?_eq_some_iff] at ha
  obtain ⟨h1, h2⟩ := ha
  simp at h1 h2
  subst h2
  exact ⟨h1, rfl⟩

/-- Values of k shared cells that stand somewhere. -/
theorem pick_cells {Γ : Ctx} {w : World} (k : Nat) (f : Nat → SC) (q : Nat → Option Value) (h : ∀ i, i < k → ∃ u, q i = some u ∧ MS Γ.I w (f i) u) :
    ∃ vs : List Value, MCs Γ w (ofS k f) vs ∧ ∀ j v, vs[j]? = some v → q j = some v := by
  induction k with
  | zero => exact ⟨[], trivial, by simp⟩
  | succ k ih =>
    obtain ⟨vs, h1, h2⟩ := ih fun i hi => h i (by omega)
    obtain ⟨u, hu, hm⟩ := h k (by omega)
    have hl := h1.length
    rw [length_ofS] at hl
    refine ⟨vs ++ [u], ?_, fun j v hj => ?_⟩
    · have : ofS (k + 1) f = ofS k f ++ [.s (f k)] := by simp [ofS, List.range_succ]
      rw [this]
      exact h1.append ⟨hm, trivial⟩
    · by_cases hjk : j < vs.length
      · rw [List.getElem?_append_left hjk] at hj; exact h2 j v hj
      · rw [List.getElem?_append_right (by omega)] at hj
        have : j - vs.length = 0 := by
          rcases Nat.eq_zero_or_pos (j - vs.length) with h0 | h0
          · exact h0
          · rw [List.getElem?_eq_none (by simp; omega)] at hj; cases hj
        rw [this] at hj
        have : j = k := by omega
        subst this
        simp at hj; subst hj; exact hu

/-- 'load'. -/
def evLoad (P : Program) (obj : Nat → Option AObj) (T : TypeId) (v : AV) : Option (List Prop × AV) :=
  match P.underlying T, P.info? T with
  | some d, some i =>
    match v with
    | .t (.c (.ptr id off)) =>
      match obj id with
      | some (.row cells) => if off + i.size ≤ cells.length then (gather d ((cells.drop off).take i.size)).map fun r => ([], .t r) else none
      | some (.arr k n α dd row l) => if off = 0 ∧ i.size = n * k ∧ aggD d = true then some ([], .t (.arr k n α dd row l)) else none
      | _ => none
    | .ro n f => if i.size ≤ n then (gather d (ofS i.size f)).map fun r => ([], .t r) else none
    | .oel id j o =>
      match obj id with
      | some (.grow _ k α dd row l) => if o + i.size ≤ k then (gather d (ofS i.size fun x => row (l.getD j dd) (o + x))).map fun r => ([j < l.length], .t r) else none
      | some (.arr k n α dd row l) => if o + i.size ≤ k then (gather d (ofS i.size fun x => row (l.getD j dd) (o + x))).map fun r => ([j < l.length], .t r) else none
      | some (.hole _ k α dd row l i' e) => if o = 0 ∧ i.size = 1 then (gather d [.own e]).map fun r => ([j = i'], .t r) else none
      | _ => none
    | _ => none
  | _, _ => none

theorem load_ok {P : Program} {Γ obj w T av a cs r} (h : evLoad P obj T av = some (cs, r)) (hv : MV Γ obj w av a) (hh : HeapOk Γ obj w) (hc : allP cs) :
    ∃ v, (Instr.loadAt T a).run P w = .ok v w ∧ MV Γ obj w r v := by
  unfold evLoad at h
  cases hu : P.underlying T with
  | none => simp [hu] at h
  | some d =>
  cases hi : P.info? T with
  | none => simp [hu, hi] at h
  | some i =>
  simp only [hu, hi] at h
  split at h
  · rename_i id off
    obtain rfl : a = .pointer (some ⟨Γ.ρ id, off, none⟩) := hv
    simp only [Instr.loadAt, Instr.sureAddr, pure_bind]
    split at h
    · rename_i cells hob
      split at h
      · rename_i hle
        simp only [Option.map_eq_some_iff, Prod.mk.injEq] at h
        obtain ⟨x, hg, rfl, rfl⟩ := h
        obtain ⟨cur, T', hb, hm⟩ := hh.objs id _ hob
        refine run_load_cells (cs := (cells.drop off).take i.size) (vs := (cur.toList.drop off).take i.size) hu hi (by simp; omega) ((hm.drop _).take _) (fun j v hj => ?_) hg
        rw [cell_of_heap hb]
        by_cases hjs : j < i.size
        · rw [List.getElem?_take_of_lt hjs, List.getElem?_drop, Array.getElem?_toList] at hj; exact hj
        · rw [List.getElem?_take, if_neg hjs] at hj; cases hj
      · cases h
    · rename_i k n α dd row l hob
      split at h
      · rename_i hle
        obtain ⟨rfl, hsz, ha⟩ := hle
        simp only [Option.some.injEq, Prod.mk.injEq] at h
        obtain ⟨rfl, rfl⟩ := h
        obtain ⟨cur, T', hb, hn, hcs, hm⟩ := hh.objs id _ hob
        have h1 := run_loadCells_list (P := P) w ⟨Γ.ρ id, 0, none⟩ cur.toList (fun j v hj => by rw [add_mk, cell_of_heap hb]; simpa using hj)
        rw [Array.length_toList, hcs, ← hsz] at h1
        exact ⟨.agg cur, by simp [loadVar, run_isAgg hu, ha, run_sizeOf' hi, h1], cur, rfl, hn, hcs, hm⟩
      · cases h
    · cases h
  · rename_i n f
    obtain ⟨b, off, rfl, hb, hf⟩ := hv
    simp only [Instr.loadAt, Instr.sureAddr, pure_bind]
    split at h
    · rename_i hle
      simp only [Option.map_eq_some_iff, Prod.mk.injEq] at h
      obtain ⟨x, hg, rfl, rfl⟩ := h
      obtain ⟨vs, h1, h2⟩ := pick_cells (Γ := Γ) (w := w) i.size f (fun j => w.cell? ⟨b, off + j, none⟩) (fun j hj => hf j (by omega))
      exact run_load_cells hu hi (length_ofS _ _) h1 h2 hg
    · cases h
  · rename_i id j o
    obtain ⟨k', rfl, hk⟩ := hv
    simp only [Instr.loadAt, Instr.sureAddr, pure_bind]
    split at h
    · rename_i T' k α dd row l hob
      obtain rfl : k = k' := hk _ hob
      split at h
      · rename_i hle
        simp only [Option.map_eq_some_iff, Prod.mk.injEq] at h
        obtain ⟨x, hg, rfl, rfl⟩ := h
        have hj : j < l.length := hc
        rcases hh.objs id _ hob with ⟨_, rfl⟩ | ⟨cap, cur, _, hb, _, _, _, hm⟩
        · simp at hj
        obtain ⟨vs, h1, h2⟩ := pick_cells (Γ := Γ) (w := w) i.size (fun x => row (l.getD j dd) (o + x)) (fun x => w.cell? ⟨Γ.ρ id, j * k + o + x, none⟩) (fun x hx => by
          obtain ⟨u, hu, hm'⟩ := hm j (l.getD j dd) (by simp [List.getD, List.getElem?_eq_getElem hj]) (o + x) (by omega)
          exact ⟨u, by rw [cell_of_heap hb, Nat.add_assoc]; exact hu, hm'⟩)
        exact run_load_cells hu hi (length_ofS _ _) h1 h2 hg
      · cases h
    · rename_i k n α dd row l hob
      obtain rfl : k = k' := hk _ hob
      split at h
      · rename_i hle
        simp only [Option.map_eq_some_iff, Prod.mk.injEq] at h
        obtain ⟨x, hg, rfl, rfl⟩ := h
        have hj : j < l.length := hc
        obtain ⟨cur, T', hb, _, _, hm⟩ := hh.objs id _ hob
        obtain ⟨vs, h1, h2⟩ := pick_cells (Γ := Γ) (w := w) i.size (fun x => row (l.getD j dd) (o + x)) (fun x => w.cell? ⟨Γ.ρ id, j * k + o + x, none⟩) (fun x hx => by
          obtain ⟨u, hu, hm'⟩ := hm j (l.getD j dd) (by simp [List.getD, List.getElem?_eq_getElem hj]) (o + x) (by omega)
          exact ⟨u, by rw [cell_of_heap hb, Nat.add_assoc]; exact hu, hm'⟩)
        exact run_load_cells hu hi (length_ofS _ _) h1 h2 hg
      · cases h
    · rename_i T' k α dd row l i' e hob
      obtain rfl : k = k' := hk _ hob
      split at h
      · rename_i hle
        obtain ⟨rfl, hsz⟩ := hle
        simp only [Option.map_eq_some_iff, Prod.mk.injEq] at h
        obtain ⟨x, hg, rfl, rfl⟩ := h
        have hj : j = i' := hc
        subst hj
        obtain ⟨cap, cur, _, hb, _, _, _, ⟨hz1, hz2⟩, _⟩ := hh.objs id _ hob
        refine run_load_cells (cs := [.own e]) (vs := [Γ.η e]) hu hi (by rw [hsz]; rfl) ⟨⟨rfl, hz2⟩, trivial⟩ (fun q v hq => ?_) hg
        cases q with
        | zero =>
          simp only [List.getElem?_cons_zero, Option.some.injEq] at hq
          subst hq
          rw [cell_of_heap hb]
          exact hz1
        | succ q => simp at hq
      · cases h
    · cases h
  · cases h

/-- 'fieldAddr'. -/
def evFieldAddr (P : Program) (T : TypeId) (f : Nat) (v : AV) : Option (List Prop × AV) :=
  match P.underlying T with
  | some (.struct fs) =>
    match fs[f]? with
    | some fd =>
      if (P.info? fd.type).map (fun i => decide (i.size = 0)) = some false then
        match v with
        | .t (.c (.ptr id off)) => some ([], .t (.c (.ptr id (off + fd.offset))))
        | .ro n g => some ([], .ro (n - fd.offset) (fun i => g (fd.offset + i)))
        | .oel id j o => some ([], .oel id j (o + fd.offset))
        | _ => none
      else none
    | _ => none
  | _ => none

theorem fieldAddr_ok {P : Program} {Γ obj w T f av a cs r} (h : evFieldAddr P T f av = some (cs, r)) (hv : MV Γ obj w av a) :
    ∃ v, (Instr.fieldAt T a f).run P w = .ok v w ∧ MV Γ obj w r v := by
  unfold evFieldAddr at h
  split at h
  · rename_i fs hu
    split at h
    · rename_i fd hf
      split at h
      · rename_i hs
        cases hi : P.info? fd.type with
        | none => simp [hi] at hs
        | some i =>
        have hs0 : i.size ≠ 0 := by simpa [hi] using hs
        have hrun : ∀ b off, (Instr.fieldAt T (.pointer (some ⟨b, off, none⟩)) f).run P w = .ok (.pointer (some ⟨b, off + fd.offset, none⟩)) w := by
          intro b off
          simp [Instr.fieldAt, run_underlying hu, hf, Instr.sureAddr, fieldPlace, run_sizeOf' hi, hs0, add_mk]
        split at h
        · rename_i id off
          simp only [Option.some.injEq, Prod.mk.injEq] at h
          obtain ⟨rfl, rfl⟩ := h
          obtain rfl : a = .pointer (some ⟨Γ.ρ id, off, none⟩) := hv
          exact ⟨_, hrun _ _, rfl⟩
        · rename_i n g
          simp only [Option.some.injEq, Prod.mk.injEq] at h
          obtain ⟨rfl, rfl⟩ := h
          obtain ⟨b, off, rfl, hb, hg⟩ := hv
          refine ⟨_, hrun _ _, b, off + fd.offset, rfl, hb, fun i hi => ?_⟩
          rw [Nat.add_assoc]
          exact hg _ (by omega)
        · rename_i id j o
          simp only [Option.some.injEq, Prod.mk.injEq] at h
          obtain ⟨rfl, rfl⟩ := h
          obtain ⟨k, rfl, hk⟩ := hv
          exact ⟨_, hrun _ _, k, by rw [Nat.add_assoc], hk⟩
        · cases h
      · cases h
    · cases h
  · cases h
end AL
namespace AL
open Go
set_option linter.unusedVariables false

theorem run_asIntOf {P : Program} {k n w} : (asIntOf (.int k n)).run P w = Result.ok (k, n) w := rfl

/-- 'indexAddr'. -/
def evIndexAddr (P : Program) (obj : Nat → Option AObj) (T : TypeId) (v ix : AV) : Option (List Prop × AV) :=
  match ix with
  | .t (.c (.s (.int _ n))) =>
    match P.underlying T with
    | some (.slice e) =>
      match v with
      | .t (.c (.s (.sl k α d row l))) => if P.cellsOf e = k ∧ P.info? e ≠ none then some ([0 ≤ n, n < l.length], .ro k (row (l.getD n.toNat d))) else none
      | .t (.c (.own id)) =>
        match obj id with
        | some (.grow _ k α d row l) => if P.cellsOf e = k ∧ P.info? e ≠ none then some ([0 ≤ n, n < l.length], .oel id n.toNat 0) else none
        | some (.hole _ k α d row l _ _) => if P.cellsOf e = k ∧ P.info? e ≠ none then some ([0 ≤ n, n < l.length], .oel id n.toNat 0) else none
        | _ => none
      | _ => none
    | some (.array N e) =>
      match v with
      | .t (.c (.ptr id off)) =>
        match obj id with
        | some (.row _) => if P.info? e ≠ none then some ([0 ≤ n, n < N], .t (.c (.ptr id (off + n.toNat * P.cellsOf e)))) else none
        | some (.arr k m α d row l) => if P.cellsOf e = k ∧ P.info? e ≠ none ∧ off = 0 then some ([0 ≤ n, n < N], .oel id n.toNat 0) else none
        | _ => none
      | .ro m f => if P.info? e ≠ none then some ([0 ≤ n, n < N], .ro (m - n.toNat * P.cellsOf e) (fun i => f (n.toNat * P.cellsOf e + i))) else none
      | _ => none
    | _ => none
  | _ => none

theorem info_some {P : Program} {e : TypeId} (h : P.info? e ≠ none) : ∃ i, P.info? e = some i ∧ P.cellsOf e = i.size := by
  cases hi : P.info? e with
  | none => exact absurd hi h
  | some i => exact ⟨i, rfl, by simp [Program.cellsOf, hi]⟩

theorem indexAddr_ok {P : Program} {Γ obj w T av iv a i cs r} (h : evIndexAddr P obj T av iv = some (cs, r)) (hv : MV Γ obj w av a) (hx : MV Γ obj w iv i)
    (hh : HeapOk Γ obj w) (hc : allP cs) : ∃ v, (Instr.indexAt T a i).run P w = .ok v w ∧ MV Γ obj w r v := by
  unfold evIndexAddr at h
  split at h
  · rename_i kk n
    obtain ⟨rfl, hn⟩ := hx
    split at h
    · rename_i e hu
      split at h
      · rename_i k α d row l
        split at h
        · rename_i he
          obtain ⟨hk, he⟩ := he
          obtain ⟨inf, hi, hsz⟩ := info_some he
          simp only [Option.some.injEq, Prod.mk.injEq] at h
          obtain ⟨rfl, rfl⟩ := h
          obtain ⟨h0, h1⟩ := hc
          have h1 : n < l.length := h1
          obtain ⟨ad, cap, rfl, _, _, hl⟩ := hv
          have hne : l ≠ [] := by intro e; subst e; simp at h1; omega
          rcases hl with ⟨hl, _⟩ | ⟨b, off, rfl, hb, hl⟩
          · exact absurd hl hne
          refine ⟨.pointer (some ((⟨b, off, none⟩ : Addr).add (n.toNat * k))), ?_, b, off + n.toNat * k, by rw [add_mk], hb, fun j hj => ?_⟩
          · simp [Instr.indexAt, run_asIntOf, run_underlying hu, h0, h1, run_sizeOf' hi, ← hsz, hk]
          · have hlt : n.toNat < l.length := by omega
            exact hl n.toNat _ (by simp [List.getD, List.getElem?_eq_getElem hlt]) j hj
        · cases h
      · rename_i id
        split at h
        · rename_i T' k α d row l hob
          split at h
          · rename_i he
            obtain ⟨hk, he⟩ := he
            obtain ⟨inf, hi, hsz⟩ := info_some he
            simp only [Option.some.injEq, Prod.mk.injEq] at h
            obtain ⟨rfl, rfl⟩ := h
            obtain ⟨h0, h1⟩ := hc
            have h1 : n < l.length := h1
            obtain ⟨rfl, _⟩ := hv
            rcases hh.objs id _ hob with ⟨_, rfl⟩ | ⟨cap, cur, hη, hb, _, _, _, hm⟩
            · simp at h1; omega
            refine ⟨.pointer (some ((⟨Γ.ρ id, 0, none⟩ : Addr).add (n.toNat * k))), ?_, k, by rw [add_mk]; simp, fun o ho => by rw [hob] at ho; cases ho; rfl⟩
            rw [hη]
            simp [Instr.indexAt, run_asIntOf, run_underlying hu, h0, h1, run_sizeOf' hi, ← hsz, hk]
          · cases h
        · rename_i T' k α d row l i' e' hob
          split at h
          · rename_i he
            obtain ⟨hk, he⟩ := he
            obtain ⟨inf, hi, hsz⟩ := info_some he
            simp only [Option.some.injEq, Prod.mk.injEq] at h
            obtain ⟨rfl, rfl⟩ := h
            obtain ⟨h0, h1⟩ := hc
            have h1 : n < l.length := h1
            obtain ⟨rfl, _⟩ := hv
            obtain ⟨cap, cur, hη, hb, _⟩ := hh.objs id _ hob
            refine ⟨.pointer (some ((⟨Γ.ρ id, 0, none⟩ : Addr).add (n.toNat * k))), ?_, k, by rw [add_mk]; simp, fun o ho => by rw [hob] at ho; cases ho; rfl⟩
            rw [hη]
            simp [Instr.indexAt, run_asIntOf, run_underlying hu, h0, h1, run_sizeOf' hi, ← hsz, hk]
          · cases h
        · cases h
      · cases h
    · rename_i N e hu
      split at h
      · rename_i id off
        obtain rfl : a = .pointer (some ⟨Γ.ρ id, off, none⟩) := hv
        split at h
        · rename_i cells hob
          split at h
          · rename_i he
            obtain ⟨inf, hi, hsz⟩ := info_some he
            simp only [Option.some.injEq, Prod.mk.injEq] at h
            obtain ⟨rfl, rfl⟩ := h
            obtain ⟨h0, h1⟩ := hc
            have h1 : n < (N : Int) := h1
            refine ⟨.pointer (some ((⟨Γ.ρ id, off, none⟩ : Addr).add (n.toNat * P.cellsOf e))), ?_, by rw [add_mk]; rfl⟩
            simp [Instr.indexAt, run_asIntOf, run_underlying hu, h0, h1, run_sizeOf' hi, ← hsz, Instr.sureAddr]
          · cases h
        · rename_i k m α d row l hob
          split at h
          · rename_i he
            obtain ⟨hk, he, rfl⟩ := he
            obtain ⟨inf, hi, hsz⟩ := info_some he
            simp only [Option.some.injEq, Prod.mk.injEq] at h
            obtain ⟨rfl, rfl⟩ := h
            obtain ⟨h0, h1⟩ := hc
            have h1 : n < (N : Int) := h1
            refine ⟨.pointer (some ((⟨Γ.ρ id, 0, none⟩ : Addr).add (n.toNat * k))), ?_, k, by rw [add_mk]; simp, fun o ho => by rw [hob] at ho; cases ho; rfl⟩
            simp [Instr.indexAt, run_asIntOf, run_underlying hu, h0, h1, run_sizeOf' hi, ← hsz, hk, Instr.sureAddr]
          · cases h
        · cases h
      · rename_i m f
        obtain ⟨b, off, rfl, hb, hf⟩ := hv
        split at h
        · rename_i he
          obtain ⟨inf, hi, hsz⟩ := info_some he
          simp only [Option.some.injEq, Prod.mk.injEq] at h
          obtain ⟨rfl, rfl⟩ := h
          obtain ⟨h0, h1⟩ := hc
          have h1 : n < (N : Int) := h1
          refine ⟨.pointer (some ((⟨b, off, none⟩ : Addr).add (n.toNat * P.cellsOf e))), ?_, b, off + n.toNat * P.cellsOf e, by rw [add_mk], hb, fun j hj => ?_⟩
          · simp [Instr.indexAt, run_asIntOf, run_underlying hu, h0, h1, run_sizeOf' hi, ← hsz, Instr.sureAddr]
          · rw [Nat.add_assoc]; exact hf _ (by omega)
        · cases h
      · cases h
    · cases h
  · cases h

/-- 'index'. -/
def evIndex (P : Program) (T : TypeId) (v ix : AV) : Option (List Prop × AV) :=
  match ix with
  | .t (.c (.s (.int _ n))) =>
    match P.underlying T, v with
    | some .string, .t (.c (.s (.str s))) => some ([0 ≤ n, n < s.length], .t (.c (.s (.int .u8 (s.getD n.toNat 0).toNat))))
    | some (.array N e), .t (.arr k m α d row l) =>
      if P.cellsOf e = k ∧ N = m ∧ P.info? e ≠ none then
        match P.underlying e with
        | some de => (gather de (ofS k (row (l.getD n.toNat d)))).map fun r => ([0 ≤ n, n < N], .t r)
        | none => none
      else none
    | some (.array N e), .t (.agg l) =>
      if P.info? e ≠ none then
        match P.underlying e with
        | some de => if n.toNat * P.cellsOf e + P.cellsOf e ≤ l.length then (gather de ((l.drop (n.toNat * P.cellsOf e)).take (P.cellsOf e))).map fun r => ([0 ≤ n, n < N], .t r) else none
        | none => none
      else none
    | _, _ => none
  | _ => none

theorem run_part {P : Program} {Γ : Ctx} {w w0 : World} {T d i o r} {cs : List AC} {vs : List Value} {cur : Array Value} (hu : P.underlying T = some d) (hi : P.info? T = some i) (hl : cs.length = i.size)
    (hm : MCs Γ w0 cs vs) (hv : ∀ j v, vs[j]? = some v → cur[o + j]? = some v) (hg : gather d cs = some r) :
    ∃ v, (part T cur o).run P w = .ok v w ∧ MT Γ w0 r v := by
  unfold gather at hg
  have hlen := hm.length
  split at hg
  · rename_i ha
    cases hg
    refine ⟨.agg vs.toArray, ?_, _, rfl, by simpa using hm⟩
    simp [part, run_isAgg hu, ha, run_sizeOf' hi]
    apply Array.ext_getElem?
    intro j
    by_cases hj : j < i.size
    · have hjv : j < vs.length := by omega
      rw [Array.getElem?_extract]
      have := hv j vs[j] (List.getElem?_eq_getElem hjv)
      have hcs : o + j < cur.size := (Array.getElem?_eq_some_iff.1 this).1
      rw [if_pos (by omega), this]
      simp [hjv]
    · rw [Array.getElem?_extract, if_neg (by omega)]
      simp; omega
  · rename_i ha
    split at hg
    · rename_i c
      cases hg
      obtain ⟨v, hv1, hv2⟩ := hm.get (i := 0) rfl
      refine ⟨v, ?_, hv2⟩
      have := hv 0 v hv1
      simp [part, run_isAgg hu, ha, this] at this ⊢
    · cases hg

theorem index_ok {P : Program} {Γ obj w T av iv a i cs r} (h : evIndex P T av iv = some (cs, r)) (hv : MV Γ obj w av a) (hx : MV Γ obj w iv i)
    (hc : allP cs) : ∃ v, (Instr.index T a i).run P w = .ok v w ∧ MV Γ obj w r v := by
  unfold evIndex at h
  split at h
  · rename_i kk n
    obtain ⟨rfl, hn⟩ := hx
    split at h
    · rename_i s hu
      simp only [Option.some.injEq, Prod.mk.injEq] at h
      obtain ⟨rfl, rfl⟩ := h
      obtain ⟨h0, h1⟩ := hc
      have h1 : n < s.length := h1
      obtain ⟨rfl, _⟩ := hv
      have hlt : n.toNat < s.length := by omega
      have hget : (ba s)[n.toNat]? = some (s.getD n.toNat 0) := by
        have h2 : n.toNat < (ba s).size := by rw [size_ba]; exact hlt
        rw [getElem?_pos (ba s) n.toNat h2]
        simp [ba, List.getD, List.getElem?_eq_getElem hlt, ByteArray.getElem_eq_getElem_data]
      refine ⟨.int .u8 (s.getD n.toNat 0).toNat, ?_, rfl, ?_⟩
      · simp [Instr.index, run_asIntOf, run_underlying hu, h0, hget]
      · have := UInt8.toNat_lt (s.getD n.toNat 0)
        generalize (s.getD n.toNat 0).toNat = q at *
        simp [InR, IntKind.min, IntKind.max, IntKind.signed, IntKind.bits]; omega
    · rename_i N e k m α d row l hu
      split at h
      · rename_i he
        obtain ⟨hk, rfl, he⟩ := he
        obtain ⟨inf, hi, hsz⟩ := info_some he
        split at h
        · rename_i de hde
          simp only [Option.map_eq_some_iff, Prod.mk.injEq] at h
          obtain ⟨x, hg, rfl, rfl⟩ := h
          obtain ⟨h0, h1⟩ := hc
          have h1 : n < (N : Int) := h1
          obtain ⟨cur, rfl, hl, hcs, hm⟩ := hv
          have hlt : n.toNat < l.length := by omega
          obtain ⟨vs, g1, g2⟩ := pick_cells (Γ := Γ) (w := w) k (row (l.getD n.toNat d)) (fun x => cur[n.toNat * k + x]?) (fun x hx => hm n.toNat _ (by simp [List.getD, List.getElem?_eq_getElem hlt]) x hx)
          obtain ⟨v, hr, hmv⟩ := run_part (w := w) (o := n.toNat * k) hde hi (by rw [length_ofS, ← hsz, hk]) g1 g2 hg
          refine ⟨v, ?_, hmv⟩
          simp [Instr.index, run_asIntOf, run_underlying hu, h0, h1, run_sizeOf' hi, ← hsz, hk, hr]
        · cases h
      · cases h
    · rename_i N e l hu
      split at h
      · rename_i he
        obtain ⟨inf, hi, hsz⟩ := info_some he
        split at h
        · rename_i de hde
          split at h
          · rename_i hle
            simp only [Option.map_eq_some_iff, Prod.mk.injEq] at h
            obtain ⟨x, hg, rfl, rfl⟩ := h
            obtain ⟨h0, h1⟩ := hc
            have h1 : n < (N : Int) := h1
            obtain ⟨cur, rfl, hm⟩ := hv
            obtain ⟨v, hr, hmv⟩ := run_part (P := P) (w := w) (cur := cur) (o := n.toNat * P.cellsOf e) hde hi (by simp; omega) ((hm.drop (n.toNat * P.cellsOf e)).take (P.cellsOf e)) (fun j v hj => by
              by_cases hjs : j < P.cellsOf e
              · rw [List.getElem?_take_of_lt hjs, List.getElem?_drop, Array.getElem?_toList] at hj; exact hj
              · rw [List.getElem?_take, if_neg hjs] at hj; cases hj) hg
            refine ⟨v, ?_, hmv⟩
            simp [Instr.index, run_asIntOf, run_underlying hu, h0, h1, run_sizeOf' hi, ← hsz, hr]
          · cases h
        · cases h
      · cases h
    · cases h
  · cases h

/-- 'field'. -/
def evField (P : Program) (T : TypeId) (f : Nat) (v : AV) : Option (List Prop × AV) :=
  match P.underlying T, v with
  | some (.struct fs), .t (.agg l) =>
    match fs[f]? with
    | some fd =>
      match P.underlying fd.type, P.info? fd.type with
      | some d, some i => if fd.offset + i.size ≤ l.length then (gather d ((l.drop fd.offset).take i.size)).map fun r => ([], .t r) else none
      | _, _ => none
    | none => none
  | _, _ => none

theorem field_ok {P : Program} {Γ obj w T f av a cs r} (h : evField P T f av = some (cs, r)) (hv : MV Γ obj w av a) :
    ∃ v, (Instr.field T a f).run P w = .ok v w ∧ MV Γ obj w r v := by
  unfold evField at h
  split at h
  · rename_i fs l hu
    split at h
    · rename_i fd hf
      split at h
      · rename_i d i hud hi
        split at h
        · rename_i hle
          simp only [Option.map_eq_some_iff, Prod.mk.injEq] at h
          obtain ⟨x, hg, rfl, rfl⟩ := h
          obtain ⟨cur, rfl, hm⟩ := hv
          obtain ⟨v, hr, hmv⟩ := run_part (P := P) (w := w) (cur := cur) (o := fd.offset) hud hi (by simp; omega) ((hm.drop fd.offset).take i.size) (fun j v hj => by
              by_cases hjs : j < i.size
              · rw [List.getElem?_take_of_lt hjs, List.getElem?_drop, Array.getElem?_toList] at hj; exact hj
              · rw [List.getElem?_take, if_neg hjs] at hj; cases hj) hg
          refine ⟨v, ?_, hmv⟩
          simp [Instr.field, run_underlying hu, hf, asAgg, hr]
        · cases h
      · cases h
    · cases h
  · cases h
end AL
namespace AL
open Go
set_option linter.unusedVariables false

theorem run_sliceBound {P : Program} {k n code w} {y : Nat} (h0 : 0 ≤ n) (h1 : n ≤ (y : Int)) : (Instr.sliceBound (.int k n) y code).run P w = Result.ok n.toNat w := by
  simp [Instr.sliceBound, run_asIntOf, h0, h1]

/-- The bounds of a slice expression: from, to (to 'len' where none is told). -/
def bnd : Option AV → Option (Option Int)
  | none => some none
  | some (.t (.c (.s (.int _ n)))) => some (some n)
  | _ => none

def loN (lo : Option Int) : Nat := (lo.getD 0).toNat
def hiN (hi : Option Int) (len : Nat) : Nat := match hi with | none => len | some n => n.toNat
def cutL {β : Type} (lo hi : Option Int) (l : List β) : List β :=
  match lo, hi with
  | none, none => l
  | some a, none => l.drop a.toNat
  | none, some b => l.take b.toNat
  | some a, some b => (l.take b.toNat).drop a.toNat

def cutC (lo hi : Option Int) (len : Nat) : List Prop :=
  (match hi with | none => [] | some n => [0 ≤ n, n ≤ len]) ++ (match lo, hi with | none, _ => [] | some n, none => [0 ≤ n, n ≤ len] | some n, some m => [0 ≤ n, n ≤ m])

theorem cutL_eq {β : Type} (lo hi : Option Int) (l : List β) (hc : allP (cutC lo hi l.length)) : cutL lo hi l = (l.take (hiN hi l.length)).drop (loN lo) := by
  cases lo <;> cases hi <;> simp [cutL, hiN, loN]

def IsB : Option Int → Option Value → Prop
  | none, o => o = none
  | some n, o => ∃ k, o = some (.int k n)

theorem bounds_run {P : Program} {isSlice : Bool} {len cap : Nat} {lo hi : Option Value} {blo bhi : Option Int} {w : World}
    (hlo : IsB blo lo) (hhi : IsB bhi hi)
    (hc : allP (cutC blo bhi len)) (hcap : len ≤ cap) :
    (Instr.sliceBounds isSlice len cap lo hi none).run P w = Result.ok (loN blo, hiN bhi len, cap) w ∧ loN blo ≤ hiN bhi len ∧ hiN bhi len ≤ len := by
  unfold cutC at hc
  cases bhi with
  | none =>
    obtain rfl : hi = none := hhi
    cases blo with
    | none => obtain rfl : lo = none := hlo; exact ⟨by simp [Instr.sliceBounds, loN, hiN], Nat.zero_le _, Nat.le_refl _⟩
    | some n =>
      obtain ⟨k, rfl⟩ := hlo
      obtain ⟨h0, h1⟩ := hc
      have h0 : 0 ≤ n := h0
      have h1 : n ≤ (len : Int) := h1
      refine ⟨by simp [Instr.sliceBounds, loN, hiN, run_sliceBound h0 h1], ?_, Nat.le_refl _⟩
      show n.toNat ≤ len
      omega
  | some m =>
    obtain ⟨k, rfl⟩ := hhi
    cases blo with
    | none =>
      obtain rfl : lo = none := hlo
      obtain ⟨h0, h1⟩ := hc
      have h0 : 0 ≤ m := h0
      have h1 : m ≤ (len : Int) := h1
      have h2 : m ≤ (cap : Int) := by omega
      refine ⟨by cases isSlice <;> simp [Instr.sliceBounds, loN, hiN, run_sliceBound h0 h2], Nat.zero_le _, ?_⟩
      show m.toNat ≤ len
      omega
    | some n =>
      obtain ⟨k', rfl⟩ := hlo
      obtain ⟨h0, h1, h3, h4⟩ := hc
      have h0 : 0 ≤ m := h0
      have h3 : 0 ≤ n := h3
      have h1 : m ≤ (len : Int) := h1
      have h2 : m ≤ (cap : Int) := by omega
      have h4 : n ≤ m := h4
      have h5 : n ≤ ((m.toNat : Nat) : Int) := by omega
      refine ⟨by cases isSlice <;> simp [Instr.sliceBounds, loN, hiN, run_sliceBound h0 h2, run_sliceBound h3 h5], ?_, ?_⟩
      · show n.toNat ≤ m.toNat
        omega
      · show m.toNat ≤ len
        omega

/-- 'slice' (without a third index) of a string or of a shared slice. -/
def evSlice (P : Program) (T : TypeId) (v : AV) (lo hi : Option AV) : Option (List Prop × AV) :=
  match bnd lo, bnd hi with
  | some lo, some hi =>
    match P.underlying T, v with
    | some .string, .t (.c (.s (.str s))) => some (cutC lo hi s.length, .t (.c (.s (.str (cutL lo hi s)))))
    | some (.slice e), .t (.c (.s (.sl k α d row l))) =>
      if P.cellsOf e = k ∧ P.info? e ≠ none then some (cutC lo hi l.length, .t (.c (.s (.sl k α d row (cutL lo hi l))))) else none
    | some (.slice e), .t (.c (.s .nilsl)) =>
      if P.info? e ≠ none then some (cutC lo hi 0, .t (.c (.s .nilsl))) else none
    | _, _ => none
  | _, _ => none

def MVo (Γ : Ctx) (obj : Nat → Option AObj) (w : World) : Option AV → Option Value → Prop
  | none, none => True
  | some b, some v => MV Γ obj w b v
  | _, _ => False

theorem bnd_ok {Γ obj w} {b : Option AV} {o : Option Value} {r : Option Int} (h : bnd b = some r) (hv : MVo Γ obj w b o) :
    IsB r o := by
  unfold bnd at h
  split at h
  · cases h
    cases o with
    | none => rfl
    | some v => exact hv.elim
  · rename_i k n
    cases h
    cases o with
    | none => exact hv.elim
    | some v => exact ⟨k, by rw [(show v = .int k n from hv.1)]⟩
  · cases h

theorem bytes_extract (s : Bytes) (a b : Nat) : (ba s).extract a b = ba ((s.take b).drop a) := by
  apply ByteArray.ext
  simp [ba, ByteArray.data_extract, List.drop_take]

theorem slice_ok {P : Program} {Γ obj w T av a} {lo hi : Option AV} {vlo vhi : Option Value} {cs r} (h : evSlice P T av lo hi = some (cs, r)) (hv : MV Γ obj w av a)
    (hlo : MVo Γ obj w lo vlo) (hhi : MVo Γ obj w hi vhi)
    (hc : allP cs) : ∃ v, (Instr.sliceAt T a vlo vhi none).run P w = .ok v w ∧ MV Γ obj w r v := by
  unfold evSlice at h
  split at h
  · rename_i blo bhi e1 e2
    have g1 := bnd_ok e1 hlo
    have g2 := bnd_ok e2 hhi
    split at h
    · rename_i s hu
      simp only [Option.some.injEq, Prod.mk.injEq] at h
      obtain ⟨rfl, rfl⟩ := h
      obtain ⟨rfl, hs⟩ := hv
      obtain ⟨hb, h1, h2⟩ := bounds_run (P := P) (isSlice := false) (w := w) g1 g2 hc (Nat.le_refl s.length)
      refine ⟨.string (ba (cutL blo bhi s)), ?_, rfl, ?_⟩
      · rw [cutL_eq _ _ _ hc]
        simp [Instr.sliceAt, Instr.slice, run_underlying hu, size_ba, hb, bytes_extract]
      · rw [cutL_eq _ _ _ hc]; simp; omega
    · rename_i e k α d row l hu
      split at h
      · rename_i he
        obtain ⟨hk, he⟩ := he
        obtain ⟨inf, hi', hsz⟩ := info_some he
        simp only [Option.some.injEq, Prod.mk.injEq] at h
        obtain ⟨rfl, rfl⟩ := h
        obtain ⟨ad, cap, rfl, hcap, hmx, hl⟩ := hv
        obtain ⟨hb, h1, h2⟩ := bounds_run (P := P) (isSlice := true) (w := w) g1 g2 hc hcap
        refine ⟨.slice (if cap = loN blo then ad else ad.map (·.add (loN blo * k))) (hiN bhi l.length - loN blo) (cap - loN blo), ?_, ?_⟩
        · simp [Instr.sliceAt, Instr.slice, run_underlying hu, hb, run_sizeOf' hi', ← hsz, hk]
        · have hlen : (cutL blo bhi l).length = hiN bhi l.length - loN blo := by
            rw [cutL_eq _ _ _ hc, List.length_drop, List.length_take]; omega
          refine ⟨_, _, by rw [hlen], by omega, by omega, ?_⟩
          by_cases hcl : cap = loN blo
          · left
            rw [if_pos hcl]
            refine ⟨List.eq_nil_of_length_eq_zero (by omega), fun _ => by omega⟩
          · rw [if_neg hcl]
            rcases hl with ⟨rfl, hn⟩ | ⟨b, off, rfl, hI, hm⟩
            · left
              refine ⟨List.eq_nil_of_length_eq_zero (by rw [hlen]; simp at h2 ⊢; omega), fun hnn => ?_⟩
              have : ad = none := by cases ad <;> simp at hnn ⊢
              have := hn this; omega
            · right
              refine ⟨b, off + loN blo * k, by simp [add_mk], hI, fun j x hx i hi => ?_⟩
              rw [cutL_eq _ _ _ hc, List.getElem?_drop] at hx
              have hjt : loN blo + j < hiN bhi l.length := by
                rcases Nat.lt_or_ge (loN blo + j) (hiN bhi l.length) with h | h
                · exact h
                · rw [List.getElem?_take, if_neg (by omega)] at hx; cases hx
              rw [List.getElem?_take_of_lt hjt] at hx
              have := hm (loN blo + j) x hx i hi
              rw [show off + loN blo * k + j * k + i = off + (loN blo + j) * k + i by rw [Nat.add_mul]; omega]
              exact this
      · cases h
    · rename_i e hu
      split at h
      · rename_i he
        obtain ⟨inf, hi', hsz⟩ := info_some he
        simp only [Option.some.injEq, Prod.mk.injEq] at h
        obtain ⟨rfl, rfl⟩ := h
        obtain rfl : a = .slice none 0 0 := hv
        obtain ⟨hb, h1, h2⟩ := bounds_run (P := P) (isSlice := true) (w := w) g1 g2 hc (Nat.le_refl 0)
        refine ⟨.slice none 0 0, ?_, rfl⟩
        have h3 : hiN bhi 0 = 0 := by omega
        have h4 : loN blo = 0 := by omega
        simp [Instr.sliceAt, Instr.slice, run_underlying hu, hb, run_sizeOf' hi', h3, h4]
      · cases h
    · cases h
  · cases h

/-- 'len'. -/
def evLen (P : Program) (obj : Nat → Option AObj) (T : TypeId) (v : AV) : Option (List Prop × AV) :=
  match P.underlying T, v with
  | some .string, .t (.c (.s (.str s))) => some ([], .t (.c (.s (.int .i64 s.length))))
  | some (.slice _), .t (.c (.s (.sl k α d row l))) => some ([], .t (.c (.s (.int .i64 l.length))))
  | some (.slice _), .t (.c (.s .nilsl)) => some ([], .t (.c (.s (.int .i64 0))))
  | some (.slice _), .t (.c (.own id)) =>
    match obj id with
    | some (.grow _ k α d row l) => some ([], .t (.c (.s (.int .i64 l.length))))
    | _ => none
  | some (.array n _), _ => if n ≤ maxLen then some ([], .t (.c (.s (.int .i64 n)))) else none
  | _, _ => none

theorem inR_len {n : Nat} (h : n ≤ maxLen) : InR .i64 (n : Int) := by
  simp only [maxLen] at h
  simp [InR, IntKind.min, IntKind.max, IntKind.signed, IntKind.bits]; omega

theorem len_ok {P : Program} {Γ obj w T av a cs r rt} (h : evLen P obj T av = some (cs, r)) (hv : MV Γ obj w av a) (hh : HeapOk Γ obj w) :
    ∃ v, (Builtin.len_ #[T] rt #[a]).run P w = .ok v w ∧ MV Γ obj w r v := by
  unfold evLen at h
  split at h
  · rename_i s hu
    simp only [Option.some.injEq, Prod.mk.injEq] at h
    obtain ⟨rfl, rfl⟩ := h
    obtain ⟨rfl, hs⟩ := hv
    exact ⟨.int .i64 s.length, by simp [Builtin.len_, run_underlying hu, goInt, size_ba], rfl, inR_len hs⟩
  · rename_i e k α d row l hu
    simp only [Option.some.injEq, Prod.mk.injEq] at h
    obtain ⟨rfl, rfl⟩ := h
    obtain ⟨ad, cap, rfl, hcap, hmx, hl⟩ := hv
    exact ⟨.int .i64 l.length, by simp [Builtin.len_, run_underlying hu, goInt], rfl, inR_len (by omega)⟩
  · rename_i e hu
    simp only [Option.some.injEq, Prod.mk.injEq] at h
    obtain ⟨rfl, rfl⟩ := h
    obtain rfl : a = .slice none 0 0 := hv
    exact ⟨.int .i64 0, by simp [Builtin.len_, run_underlying hu, goInt], rfl, inR_len (Nat.zero_le _)⟩
  · rename_i e id hu
    split at h
    · rename_i T' k α d row l hob
      simp only [Option.some.injEq, Prod.mk.injEq] at h
      obtain ⟨rfl, rfl⟩ := h
      obtain ⟨rfl, _⟩ := hv
      rcases hh.objs id _ hob with ⟨hη, rfl⟩ | ⟨cap, cur, hη, hb, h1, h2, _, hm⟩
      · exact ⟨.int .i64 0, by simp [Builtin.len_, run_underlying hu, goInt, hη], rfl, inR_len (Nat.zero_le _)⟩
      · exact ⟨.int .i64 l.length, by simp [Builtin.len_, run_underlying hu, goInt, hη], rfl, inR_len (by omega)⟩
    · cases h
  · rename_i n e hu
    split at h
    · simp only [Option.some.injEq, Prod.mk.injEq] at h
      obtain ⟨rfl, rfl⟩ := h
      exact ⟨.int .i64 n, by simp [Builtin.len_, run_underlying hu, goInt], rfl, inR_len (by assumption)⟩
    · cases h
  · cases h

/-- 'convert' between numbers; a text to a text. -/
def evConvert (P : Program) (src dst : TypeId) (v : AV) : Option (List Prop × AV) :=
  match P.underlying src, P.underlying dst, v with
  | some _, some (.int k'), .t (.c (.s (.int k n))) =>
    if k'.min ≤ k.min ∧ k.max ≤ k'.max then some ([], .t (.c (.s (.int k' n)))) else some ((arith k' n).1, .t (.c (.s (arith k' n).2)))
  | some _, some .string, .t (.c (.s (.str s))) => some ([], .t (.c (.s (.str s))))
  | _, _, _ => none

theorem convert_ok {P : Program} {Γ obj w src dst av a cs r} (h : evConvert P src dst av = some (cs, r)) (hv : MV Γ obj w av a) (hc : allP cs) :
    ∃ v, (Go.convert src dst a).run P w = .ok v w ∧ MV Γ obj w r v := by
  unfold evConvert at h
  split at h
  · rename_i d k' k n hs hd
    obtain ⟨rfl, hn⟩ := hv
    split at h
    · rename_i hle
      simp only [Option.some.injEq, Prod.mk.injEq] at h
      obtain ⟨rfl, rfl⟩ := h
      have hr : InR k' n := ⟨by have := hn.1; omega, by have := hn.2; omega⟩
      exact ⟨.int k' n, by simp [Go.convert, run_underlying hs, run_underlying hd, Conv.intToInt, wrap_of_inR hr], rfl, hr⟩
    · simp only [Option.some.injEq, Prod.mk.injEq] at h
      obtain ⟨rfl, rfl⟩ := h
      exact ⟨.int k' (k'.wrap n), by simp [Go.convert, run_underlying hs, run_underlying hd, Conv.intToInt], arith_ok k' n hc⟩
  · rename_i d s hs hd
    simp only [Option.some.injEq, Prod.mk.injEq] at h
    obtain ⟨rfl, rfl⟩ := h
    obtain ⟨rfl, hn⟩ := hv
    exact ⟨.string (ba s), by simp [Go.convert, run_underlying hs, run_underlying hd], rfl, hn⟩
  · cases h

/-- 'unOp'. -/
def evUn (op : UnOp) (v : AV) : Option (List Prop × AV) :=
  match op, v with
  | .not, .t (.c (.s (.bool b))) => some ([], .t (.c (.s (.bool (!b)))))
  | .neg, .t (.c (.s (.int k n))) => some ((arith k (0 - n)).1, .t (.c (.s (arith k (0 - n)).2)))
  | _, _ => none

theorem un_ok {P : Program} {Γ obj w op av a cs r} (h : evUn op av = some (cs, r)) (hv : MV Γ obj w av a) (hc : allP cs) :
    ∃ v, (Op.unary op a).run P w = .ok v w ∧ MV Γ obj w r v := by
  unfold evUn at h
  split at h
  · simp only [Option.some.injEq, Prod.mk.injEq] at h
    obtain ⟨rfl, rfl⟩ := h
    obtain rfl := hv
    exact ⟨_, rfl, rfl⟩
  · rename_i k n
    simp only [Option.some.injEq, Prod.mk.injEq] at h
    obtain ⟨rfl, rfl⟩ := h
    obtain ⟨rfl, hn⟩ := hv
    exact ⟨.int k (k.wrap (0 - n)), rfl, arith_ok k _ hc⟩
  · cases h
end AL
namespace AL
open Go
set_option linter.unusedVariables false

/-- The cells of a value. -/
def cellsA : AV → Option (List AC)
  | .t (.c a) => some [a]
  | .t (.agg l) => some l
  | _ => none

theorem cellsA_ok {Γ obj w x v l} (h : cellsA x = some l) (hv : MV Γ obj w x v) : MCs Γ w l v.cells.toList := by
  unfold cellsA at h
  split at h
  · cases h
    have hv : MC Γ w _ v := hv
    have h1 := hv.one
    have : v.cells = #[v] := by cases v <;> first | rfl | cases h1
    rw [this]; exact ⟨hv, trivial⟩
  · cases h
    obtain ⟨cs, rfl, hm⟩ := hv
    exact hm
  · cases h

def fillA (place : Nat → Option (Nat × Nat)) (cells : List AC) : List (Nat × AV) → Option (List AC)
  | [] => some cells
  | (i, v) :: rest =>
    match place i, cellsA v with
    | some (off, size), some l => if l.length = size ∧ off + size ≤ cells.length then fillA place (cells.take off ++ (l ++ cells.drop (off + size))) rest else none
    | _, _ => none

theorem set_fold (off : Nat) : ∀ (us : List Value) (s : Nat) (cells : Array Value), off + s + us.length ≤ cells.size →
    ((us.zipIdx s).foldl (fun cs (p : Value × Nat) => cs.setIfInBounds (off + p.2) p.1) cells).toList = cells.toList.take (off + s) ++ (us ++ cells.toList.drop (off + s + us.length))
  | [], s, cells, h => by simp
  | u :: us, s, cells, h => by
    simp only [List.length_cons] at h
    simp only [List.zipIdx_cons, List.foldl_cons]
    rw [set_fold off us (s + 1) _ (by simp; omega)]
    apply List.ext_getElem?
    intro i
    simp only [Array.toList_setIfInBounds, List.getElem?_append, List.length_take, List.length_set, Array.length_toList, List.length_cons]
    have e1 : min (off + (s + 1)) cells.size = off + s + 1 := by omega
    have e2 : min (off + s) cells.size = off + s := by omega
    rw [e1, e2]
    by_cases h1 : i < off + s
    · rw [if_pos (show i < off + s + 1 by omega), if_pos h1, List.getElem?_take_of_lt (by omega), List.getElem?_take_of_lt h1, List.getElem?_set_ne (by omega)]
    · by_cases h2 : i = off + s
      · subst h2
        rw [if_pos (show off + s < off + s + 1 by omega), if_neg h1, if_pos (show off + s - (off + s) < us.length + 1 by omega), List.getElem?_take_of_lt (by omega), List.getElem?_set_self (by simp; omega)]
        simp
      · rw [if_neg (show ¬ i < off + s + 1 by omega), if_neg h1]
        by_cases h3 : i < off + s + 1 + us.length
        · rw [if_pos (show i - (off + s + 1) < us.length by omega), if_pos (show i - (off + s) < us.length + 1 by omega)]
          rw [show i - (off + s) = (i - (off + s + 1)) + 1 by omega]
          simp
        · rw [if_neg (show ¬ i - (off + s + 1) < us.length by omega), if_neg (show ¬ i - (off + s) < us.length + 1 by omega)]
          simp only [List.getElem?_drop]
          rw [List.getElem?_set_ne (by omega)]
          congr 1
          omega

def MParts (Γ : Ctx) (obj : Nat → Option AObj) (w : World) : List (Nat × AV) → List (Nat × Value) → Prop
  | [], [] => True
  | (i, x) :: p, (j, v) :: q => i = j ∧ MV Γ obj w x v ∧ MParts Γ obj w p q
  | _, _ => False

theorem fill_ok {Γ obj w} (place : Nat → Option (Nat × Nat)) : ∀ (parts : List (Nat × AV)) (vp : List (Nat × Value)) (L L' : List AC) (cells : Array Value),
    MParts Γ obj w parts vp → fillA place L parts = some L' → MCs Γ w L cells.toList → ∃ cells', Instr.fill place cells vp = some cells' ∧ MCs Γ w L' cells'.toList
  | [], [], L, L', cells, _, h, hm => by cases h; exact ⟨cells, rfl, hm⟩
  | [], _ :: _, _, _, _, h, _, _ => h.elim
  | _ :: _, [], _, _, _, h, _, _ => h.elim
  | (i, x) :: parts, (i', v) :: vp, L, L', cells, hv, h, hm => by
    obtain ⟨rfl, hv, hvs⟩ := hv
    unfold fillA at h
    cases hp : place i with
    | none => simp [hp] at h
    | some q =>
    obtain ⟨off, size⟩ := q
    cases hc : cellsA x with
    | none => simp [hp, hc] at h
    | some l =>
    simp only [hp, hc] at h
    split at h
    · rename_i hle
      have hvc := cellsA_ok hc hv
      have hlen := hvc.length
      have hcl := hm.length
      simp only [Array.length_toList] at hlen hcl
      have hs : v.cells.size = size := by omega
      unfold Instr.fill
      simp only [hp]
      rw [if_neg (by simp; omega)]
      have hfold : (v.cells.zipIdx.foldl (fun cs (c, j) => cs.setIfInBounds (off + j) c) cells).toList = cells.toList.take off ++ (v.cells.toList ++ cells.toList.drop (off + size)) := by
        have := set_fold off v.cells.toList 0 cells (by simp; omega)
        simp only [Nat.add_zero, Array.length_toList, hs] at this
        rw [← this, ← Array.foldl_toList, Array.toList_zipIdx]
      refine fill_ok place parts vp _ L' _ hvs h ?_
      rw [hfold]
      exact (hm.take off).append (hvc.append (hm.drop _))
    · cases h

/-- 'build'. -/
def evBuild (P : Program) (T : TypeId) (parts : List (Nat × AV)) : Option (List Prop × AV) :=
  match P.info? T with
  | some i =>
    match i.zero with
    | some (.agg z) =>
      if liftsOk z.toList then
        match P.underlying T with
        | some (.struct fs) =>
          (fillA (fun j => (fs[j]?).bind fun f => (P.info? f.type).map fun i => (f.offset, i.size)) (z.toList.map fun v => .s (liftS v)) parts).bind fun l =>
            if fs.all (fun f => (P.info? f.type).isSome) then some ([], .t (.agg l)) else none
        | some (.array _ e) =>
          (fillA (fun j => some (j * P.cellsOf e, P.cellsOf e)) (z.toList.map fun v => .s (liftS v)) parts).bind fun l => if (P.info? e).isSome then some ([], .t (.agg l)) else none
        | _ => none
      else none
    | _ => none
  | none => none

theorem run_places {P : Program} {w : World} : ∀ (fs : List Field), fs.all (fun f => (P.info? f.type).isSome) = true →
    (fs.mapM (fun f => (do pure (f.offset, ← Go.sizeOf f.type) : Sem (Nat × Nat)))).run P w = Result.ok (fs.map fun f => (f.offset, P.cellsOf f.type)) w
  | [], _ => rfl
  | f :: fs, h => by
    simp only [List.all_cons, Bool.and_eq_true] at h
    obtain ⟨h1, h2⟩ := h
    obtain ⟨i, hi⟩ := Option.isSome_iff_exists.1 h1
    have := run_places (w := w) fs h2
    have hc : P.cellsOf f.type = i.size := by simp [Program.cellsOf, hi]
    simp only [List.mapM_cons, Sem.run_bind, run_sizeOf' hi, Result.andThen_ok, Sem.run_pure, this, List.map_cons, hc]

theorem build_ok {P : Program} {Γ obj w T parts} {vp : List (Nat × Value)} {cs r} (h : evBuild P T parts = some (cs, r))
    (hv : MParts Γ obj w parts vp) :
    ∃ v, (Instr.build T vp.toArray).run P w = .ok v w ∧ MV Γ obj w r v := by
  unfold evBuild at h
  split at h
  · rename_i i hi
    split at h
    · rename_i z hz
      split at h
      · rename_i hok
        have hzr : (zeroValue T).run P w = Result.ok (.agg z) w := by simp [zeroValue, typeInfo, hi, hz]
        split at h
        · rename_i fs hu
          simp only [Option.bind_eq_some_iff] at h
          obtain ⟨l, hf, h⟩ := h
          split at h
          · rename_i hall
            simp only [Option.some.injEq, Prod.mk.injEq] at h
            obtain ⟨rfl, rfl⟩ := h
            obtain ⟨cells', hf1, hf2⟩ := fill_ok _ parts vp _ l z hv hf (liftsOk_ok _ hok)
            refine ⟨.agg cells', ?_, cells', rfl, hf2⟩
            have hpl : (fs.mapM (fun f => (do pure (f.offset, ← Go.sizeOf f.type) : Sem (Nat × Nat)))).run P w = Result.ok (fs.map fun f => (f.offset, P.cellsOf f.type)) w := by
              have h1 := run_places (P := P) (w := w) fs.toList (by simpa using hall)
              rw [Array.mapM_eq_mapM_toList, map_eq_pure_bind]
              simp only [Sem.run_bind, h1, Result.andThen_ok, Sem.run_pure]
              congr 1
              apply Array.ext'
              simp
            have hpe : (fun (x : Nat) => (fs.map fun f => (f.offset, P.cellsOf f.type))[x]?) = fun (j : Nat) => (fs[j]?).bind fun (f : Field) => (P.info? f.type).map fun i => (f.offset, i.size) := by
              funext j
              cases hj : fs[j]? with
              | none => simp [hj]
              | some f =>
                have : (P.info? f.type).isSome = true := by
                  rw [Array.all_eq_true] at hall
                  have := hall j (Array.getElem?_eq_some_iff.1 hj).1
                  rwa [(Array.getElem?_eq_some_iff.1 hj).2] at this
                obtain ⟨i, hi⟩ := Option.isSome_iff_exists.1 this
                simp [hj, hi, Program.cellsOf]
            rw [← hpe] at hf1
            simp only [Instr.build, Sem.run_bind, hzr, Result.andThen_ok, run_underlying hu, hpl, Value.cells]
            rw [hf1]
            rfl
          · cases h
        · rename_i n e hu
          simp only [Option.bind_eq_some_iff] at h
          obtain ⟨l, hf, h⟩ := h
          split at h
          · rename_i hall
            simp only [Option.some.injEq, Prod.mk.injEq] at h
            obtain ⟨rfl, rfl⟩ := h
            obtain ⟨cells', hf1, hf2⟩ := fill_ok _ parts vp _ l z hv hf (liftsOk_ok _ hok)
            obtain ⟨ie, hie⟩ := Option.isSome_iff_exists.1 hall
            refine ⟨.agg cells', ?_, cells', rfl, hf2⟩
            have : P.cellsOf e = ie.size := by simp [Program.cellsOf, hie]
            rw [this] at hf1
            simp only [Instr.build, Sem.run_bind, hzr, Result.andThen_ok, run_underlying hu, run_sizeOf' hie, Value.cells]
            simp [hf1]
          · cases h
        · cases h
      · cases h
    · cases h
  · cases h
/-- Equality of two values of one comparable type made of numbers, bools, texts and structs. -/
def partA (P : Program) (T : TypeId) (l : List AC) (off : Nat) : Option TV :=
  match P.underlying T, P.info? T with
  | some d, some i => if off + i.size ≤ l.length then gather d ((l.drop off).take i.size) else none
  | _, _ => none

def eqF (rec : TypeId → TV → TV → Option Bool) (P : Program) (xs ys : List AC) : List Field → Option Bool
  | [] => some true
  | f :: fs =>
    if f.name ≠ "_" then
      match partA P f.type xs f.offset, partA P f.type ys f.offset with
      | some a, some b =>
        match rec f.type a b, eqF rec P xs ys fs with
        | some r, some q => some (r && q)
        | _, _ => none
      | _, _ => none
    else none

def eqT (P : Program) : Nat → TypeId → TV → TV → Option Bool
  | 0, _, _, _ => none
  | n + 1, T, x, y =>
    match P.underlying T with
    | some (.int _) => match x, y with
      | .c (.s (.int k a)), .c (.s (.int k' b)) => if k = k' then some (decide (a = b)) else none
      | _, _ => none
    | some .bool => match x, y with
      | .c (.s (.bool a)), .c (.s (.bool b)) => some (a == b)
      | _, _ => none
    | some .string => match x, y with
      | .c (.s (.str a)), .c (.s (.str b)) => some (decide (a = b))
      | _, _ => none
    | some (.struct fs) => match x, y with
      | .agg xs, .agg ys => if P.stoodInHeld T = false then eqF (eqT P n) P xs ys fs.toList else none
      | _, _ => none
    | _ => none

theorem partA_ok {P : Program} {Γ w T l off r} {cur : Array Value} (h : partA P T l off = some r) (hm : MCs Γ w l cur.toList) :
    ∃ v, (part T cur off).run P w = .ok v w ∧ MT Γ w r v := by
  unfold partA at h
  split at h
  · rename_i d i hud hi
    split at h
    · rename_i hle
      exact run_part (P := P) (w := w) (cur := cur) (o := off) hud hi (by simp; omega) ((hm.drop off).take i.size) (fun j v hj => by
              by_cases hjs : j < i.size
              · rw [List.getElem?_take_of_lt hjs, List.getElem?_drop, Array.getElem?_toList] at hj; exact hj
              · rw [List.getElem?_take, if_neg hjs] at hj; cases hj) h
    · cases h
  · cases h

theorem eqF_ok {P : Program} {Γ : Ctx} {w : World} {d : Nat} {rec : TypeId → TV → TV → Option Bool} {xs ys : List AC} {cx cy : Array Value} (hx : MCs Γ w xs cx.toList) (hy : MCs Γ w ys cy.toList)
    (ih : ∀ T x y vx vy r, rec T x y = some r → MT Γ w x vx → MT Γ w y vy → (Op.equalIn d T vx vy).run P w = .ok r w) :
    ∀ (fs : List Field) (r : Bool), eqF rec P xs ys fs = some r → (Op.eqFields d cx cy fs).run P w = .ok r w
  | [], r, h => by cases h; rfl
  | f :: fs, r, h => by
    unfold eqF at h
    split at h
    · rename_i hn
      split at h
      · rename_i a b ha hb
        split at h
        · rename_i r1 q h1 h2
          cases h
          obtain ⟨va, e1, m1⟩ := partA_ok (cur := cx) ha hx
          obtain ⟨vb, e2, m2⟩ := partA_ok (cur := cy) hb hy
          have e3 := ih _ _ _ _ _ _ h1 m1 m2
          have e4 := eqF_ok hx hy ih fs q h2
          unfold Op.eqFields
          rw [if_pos hn]
          simp only [Sem.run_bind, e1, e2, e3, Result.andThen_ok]
          cases r1
          · simp
          · simpa using e4
        · cases h
      · cases h
    · cases h

theorem eqT_ok {P : Program} {Γ : Ctx} {w : World} : ∀ (n m : Nat) T x y vx vy r, eqT P n T x y = some r → MT Γ w x vx → MT Γ w y vy → (Op.equalIn (m + n) T vx vy).run P w = .ok r w
  | 0, _, _, _, _, _, _, _, h, _, _ => by cases h
  | n + 1, m, T, x, y, vx, vy, r, h, hx, hy => by
    unfold eqT at h
    rw [← Nat.add_assoc]
    split at h
    · rename_i k0 hu
      split at h
      · rename_i k a k' b
        split at h
        · rename_i hk
          subst hk
          cases h
          obtain ⟨rfl, _⟩ := hx
          obtain ⟨rfl, _⟩ := hy
          exact run_equalIn_int w (m + n) T k k0 a b hu
        · cases h
      · cases h
    · rename_i hu
      split at h
      · cases h
        obtain rfl := hx
        obtain rfl := hy
        exact run_equalIn_bool w (m + n) T _ _ hu
      · cases h
    · rename_i hu
      split at h
      · rename_i s t
        cases h
        obtain ⟨rfl, _⟩ := hx
        obtain ⟨rfl, _⟩ := hy
        rw [run_equalIn_string w (m + n) T _ _ hu, toList_ba, toList_ba]
        congr 1
        rw [Bool.eq_iff_iff]; simp
      · cases h
    · rename_i fs hu
      split at h
      · rename_i xs ys
        split at h
        · rename_i hst
          obtain ⟨cx, rfl, hcx⟩ := hx
          obtain ⟨cy, rfl, hcy⟩ := hy
          have hf : P.fieldsOf T = fs := by simp [Program.fieldsOf, hu]
          rw [run_equalIn_struct w (m + n) T cx cy (by rw [hf]; exact hu) hst, hf]
          exact eqF_ok hcx hcy (fun T x y vx vy r h hx hy => eqT_ok n m T x y vx vy r h hx hy) fs.toList r h
        · cases h
      · cases h
    · cases h

def evEq (P : Program) (op : BinOp) (T : TypeId) (x y : AV) : Option (List Prop × AV) :=
  match op, x, y with
  | .eql, .t (.c (.s (.bool a))), .t (.c (.s (.bool b))) => (eqT P 8 T (.c (.s (.bool a))) (.c (.s (.bool b)))).map fun r => ([], .t (.c (.s (.bool r))))
  | .neq, .t (.c (.s (.bool a))), .t (.c (.s (.bool b))) => (eqT P 8 T (.c (.s (.bool a))) (.c (.s (.bool b)))).map fun r => ([], .t (.c (.s (.bool (!r)))))
  | .eql, .t (.agg a), .t (.agg b) => if P.eqGuardType P.depth T = false then (eqT P 8 T (.agg a) (.agg b)).map fun r => ([], .t (.c (.s (.bool r)))) else none
  | .neq, .t (.agg a), .t (.agg b) => if P.eqGuardType P.depth T = false then (eqT P 8 T (.agg a) (.agg b)).map fun r => ([], .t (.c (.s (.bool (!r))))) else none
  | .eql, .t (.c (.s (.nn _))), .t (.c (.s .nilsl)) => match P.underlying T with
    | some (.slice _) => some ([], .t (.c (.s (.bool false))))
    | _ => none
  | .neq, .t (.c (.s (.nn _))), .t (.c (.s .nilsl)) => match P.underlying T with
    | some (.slice _) => some ([], .t (.c (.s (.bool true))))
    | _ => none
  | .eql, .t (.c (.s .nilsl)), .t (.c (.s .nilsl)) => match P.underlying T with
    | some (.slice _) => some ([], .t (.c (.s (.bool true))))
    | _ => none
  | .neq, .t (.c (.s .nilsl)), .t (.c (.s .nilsl)) => match P.underlying T with
    | some (.slice _) => some ([], .t (.c (.s (.bool false))))
    | _ => none
  | _, _, _ => none

theorem equalIn_slice {P : Program} {n : Nat} {T e : TypeId} {a : Option Addr} {la ca lb cb : Nat} {w : World} (hu : P.underlying T = some (.slice e)) :
    (Op.equalIn (n + 1) T (.slice a la ca) (.slice none lb cb)).run P w = Result.ok a.isNone w := by
  unfold Op.equalIn
  rw [Sem.run_bind, run_underlying hu]
  cases a <;> rfl

theorem eq_ok {P : Program} {Γ obj w op T x y a b cs r} {ox oy : Operand} (h : evEq P op T x y = some (cs, r)) (hx : MV Γ obj w x a) (hy : MV Γ obj w y b) :
    ∃ v, (do eqGuard op T ox oy a b; Go.binOp op T a b : Sem Value).run P w = .ok v w ∧ MV Γ obj w r v := by
  have hd : Op.maxDepth = 9992 + 8 := rfl
  unfold evEq at h
  split at h
  · rename_i p q
    simp only [Option.map_eq_some_iff, Prod.mk.injEq] at h
    obtain ⟨z, hz, rfl, rfl⟩ := h
    have := eqT_ok (P := P) (w := w) 8 9992 _ _ _ _ _ _ hz (show MT Γ w _ a from hx) (show MT Γ w _ b from hy)
    obtain rfl := hx
    obtain rfl := hy
    exact ⟨.bool z, by simp [eqGuard, Go.binOp, Op.equal, hd, this], rfl⟩
  · rename_i p q
    simp only [Option.map_eq_some_iff, Prod.mk.injEq] at h
    obtain ⟨z, hz, rfl, rfl⟩ := h
    have := eqT_ok (P := P) (w := w) 8 9992 _ _ _ _ _ _ hz (show MT Γ w _ a from hx) (show MT Γ w _ b from hy)
    obtain rfl := hx
    obtain rfl := hy
    exact ⟨.bool (!z), by simp [eqGuard, Go.binOp, Op.equal, hd, this], rfl⟩
  · rename_i p q
    split at h
    · rename_i hg
      simp only [Option.map_eq_some_iff, Prod.mk.injEq] at h
      obtain ⟨z, hz, rfl, rfl⟩ := h
      have := eqT_ok (P := P) (w := w) 8 9992 _ _ _ _ _ _ hz (show MT Γ w _ a from hx) (show MT Γ w _ b from hy)
      obtain ⟨cx, rfl, _⟩ := hx
      obtain ⟨cy, rfl, _⟩ := hy
      exact ⟨.bool z, by simp [eqGuard, Go.binOp, Op.equal, hd, this, hg], rfl⟩
    · cases h
  · rename_i p q
    split at h
    · rename_i hg
      simp only [Option.map_eq_some_iff, Prod.mk.injEq] at h
      obtain ⟨z, hz, rfl, rfl⟩ := h
      have := eqT_ok (P := P) (w := w) 8 9992 _ _ _ _ _ _ hz (show MT Γ w _ a from hx) (show MT Γ w _ b from hy)
      obtain ⟨cx, rfl, _⟩ := hx
      obtain ⟨cy, rfl, _⟩ := hy
      exact ⟨.bool (!z), by simp [eqGuard, Go.binOp, Op.equal, hd, this, hg], rfl⟩
    · cases h
  · split at h
    · rename_i e hu
      cases h
      obtain ⟨_, ad, n, cap, rfl⟩ := (show MS Γ.I w _ a from hx)
      obtain rfl : b = .slice none 0 0 := hy
      have hq := fun (a : Option Addr) (la ca : Nat) => @equalIn_slice P 9999 T e a la ca 0 0 w hu
      exact ⟨.bool false, by simp [eqGuard, Go.binOp, Op.equal, show Op.maxDepth = 9999 + 1 from rfl, hq], rfl⟩
    · cases h
  · split at h
    · rename_i e hu
      cases h
      obtain ⟨_, ad, n, cap, rfl⟩ := (show MS Γ.I w _ a from hx)
      obtain rfl : b = .slice none 0 0 := hy
      have hq := fun (a : Option Addr) (la ca : Nat) => @equalIn_slice P 9999 T e a la ca 0 0 w hu
      exact ⟨.bool true, by simp [eqGuard, Go.binOp, Op.equal, show Op.maxDepth = 9999 + 1 from rfl, hq], rfl⟩
    · cases h
  · split at h
    · rename_i e hu
      cases h
      obtain rfl : a = .slice none 0 0 := hx
      obtain rfl : b = .slice none 0 0 := hy
      have hq := fun (a : Option Addr) (la ca : Nat) => @equalIn_slice P 9999 T e a la ca 0 0 w hu
      exact ⟨.bool true, by simp [eqGuard, Go.binOp, Op.equal, show Op.maxDepth = 9999 + 1 from rfl, hq], rfl⟩
    · cases h
  · split at h
    · rename_i e hu
      cases h
      obtain rfl : a = .slice none 0 0 := hx
      obtain rfl : b = .slice none 0 0 := hy
      have hq := fun (a : Option Addr) (la ca : Nat) => @equalIn_slice P 9999 T e a la ca 0 0 w hu
      exact ⟨.bool false, by simp [eqGuard, Go.binOp, Op.equal, show Op.maxDepth = 9999 + 1 from rfl, hq], rfl⟩
    · cases h
  · cases h
end AL
namespace AL
open Go
set_option linter.unusedVariables false

/-! ### ids that a value names -/
def Cap.has (d : Nat) : Cap → Bool
  | .ptr id _ => Nat.beq id d
  | _ => false
def capsHas (d : Nat) : List Cap → Bool
  | [] => false
  | c :: l => c.has d || capsHas d l
def AC.has (d : Nat) : AC → Bool
  | .s _ => false
  | .ptr id _ => Nat.beq id d
  | .own id => Nat.beq id d
  | .fn _ caps => capsHas d caps
def acsHas (d : Nat) : List AC → Bool
  | [] => false
  | c :: l => c.has d || acsHas d l
def TV.has (d : Nat) : TV → Bool
  | .c a => a.has d
  | .agg l => acsHas d l
  | .arr .. => false
def tvsHas (d : Nat) : List TV → Bool
  | [] => false
  | c :: l => c.has d || tvsHas d l
def AV.has (d : Nat) : AV → Bool
  | .any => false
  | .t x => x.has d
  | .tup l => tvsHas d l
  | .ro _ _ => false
  | .oel id _ _ => Nat.beq id d
  | .whn _ x => x.has d
def AObj.has (d : Nat) : AObj → Bool
  | .row cells => acsHas d cells
  | .hole _ _ _ _ _ _ _ e => Nat.beq e d
  | _ => false

/-- Two readings of the names that agree but for those of 'D'. -/
def Agree (D : Nat → Prop) (Γ Γ' : Ctx) : Prop := ∀ id, ¬ D id → Γ'.ρ id = Γ.ρ id ∧ Γ'.η id = Γ.η id

/-- From (Γ, w) to (Γ', w'): what was shared is still shared and stands as it stood. -/
structure Ext (D : Nat → Prop) (Γ : Ctx) (w : World) (Γ' : Ctx) (w' : World) : Prop where
  sub : ∀ b, Γ.I b → Γ'.I b
  keep : ∀ b, Γ.I b → w'.heap[b]? = w.heap[b]?
  agree : Agree D Γ Γ'

section
variable {D : Nat → Prop} {Γ Γ' : Ctx} {w w' : World}

theorem MCap.ext (h : Ext D Γ w Γ' w') {c v} (hd : ∀ d, D d → c.has d = false) (hm : MCap Γ w c v) : MCap Γ' w' c v := by
  cases c with
  | s c => exact MS.mono h.sub h.keep hm
  | ptr id off =>
    have : ¬ D id := fun hD => by have := hd id hD; simp [Cap.has] at this
    simp only [MCap] at hm ⊢
    rw [(h.agree id this).1]; exact hm

theorem MCaps.ext (h : Ext D Γ w Γ' w') : ∀ {l : List Cap} {vs : List Value}, (∀ d, D d → capsHas d l = false) → MCaps Γ w l vs → MCaps Γ' w' l vs
  | [], [], _, _ => trivial
  | c :: l, v :: vs, hd, hm => by
    refine ⟨MCap.ext h (fun d hD => ?_) hm.1, MCaps.ext h (fun d hD => ?_) hm.2⟩ <;> have := hd d hD <;> simp [capsHas] at this
    · exact this.1
    · exact this.2
  | [], _ :: _, _, hm => hm.elim
  | _ :: _, [], _, hm => hm.elim

theorem MC.ext (h : Ext D Γ w Γ' w') {c v} (hd : ∀ d, D d → c.has d = false) (hm : MC Γ w c v) : MC Γ' w' c v := by
  cases c with
  | s c => exact MS.mono h.sub h.keep hm
  | ptr id off =>
    have : ¬ D id := fun hD => by have := hd id hD; simp [AC.has] at this
    simp only [MC] at hm ⊢
    rw [(h.agree id this).1]; exact hm
  | own id =>
    have : ¬ D id := fun hD => by have := hd id hD; simp [AC.has] at this
    simp only [MC] at hm ⊢
    rw [(h.agree id this).2]; exact hm
  | fn f caps =>
    obtain ⟨cs, rfl, hc⟩ := hm
    exact ⟨cs, rfl, MCaps.ext h hd hc⟩

theorem MCs.ext (h : Ext D Γ w Γ' w') : ∀ {l : List AC} {vs : List Value}, (∀ d, D d → acsHas d l = false) → MCs Γ w l vs → MCs Γ' w' l vs
  | [], [], _, _ => trivial
  | c :: l, v :: vs, hd, hm => by
    refine ⟨MC.ext h (fun d hD => ?_) hm.1, MCs.ext h (fun d hD => ?_) hm.2⟩ <;> have := hd d hD <;> simp [acsHas] at this
    · exact this.1
    · exact this.2
  | [], _ :: _, _, hm => hm.elim
  | _ :: _, [], _, hm => hm.elim

theorem MT.ext (h : Ext D Γ w Γ' w') {c v} (hd : ∀ d, D d → c.has d = false) (hm : MT Γ w c v) : MT Γ' w' c v := by
  cases c with
  | c a => exact MC.ext h hd hm
  | agg l => obtain ⟨cs, rfl, hc⟩ := hm; exact ⟨cs, rfl, MCs.ext h hd hc⟩
  | arr k n α d row l =>
    obtain ⟨cs, rfl, h1, h2, h3⟩ := hm
    exact ⟨cs, rfl, h1, h2, fun j x hx i hi => by obtain ⟨u, hu, hm⟩ := h3 j x hx i hi; exact ⟨u, hu, MS.mono h.sub h.keep hm⟩⟩

theorem MTs.ext (h : Ext D Γ w Γ' w') : ∀ {l : List TV} {vs : List Value}, (∀ d, D d → tvsHas d l = false) → MTs Γ w l vs → MTs Γ' w' l vs
  | [], [], _, _ => trivial
  | c :: l, v :: vs, hd, hm => by
    refine ⟨MT.ext h (fun d hD => ?_) hm.1, MTs.ext h (fun d hD => ?_) hm.2⟩ <;> have := hd d hD <;> simp [tvsHas] at this
    · exact this.1
    · exact this.2
  | [], _ :: _, _, hm => hm.elim
  | _ :: _, [], _, hm => hm.elim

theorem MV.ext (h : Ext D Γ w Γ' w') {obj obj' : Nat → Option AObj} (ho : ∀ id o', ¬ D id → obj' id = some o' → ∃ o, obj id = some o ∧ o'.width = o.width) :
    ∀ {c v}, (∀ d, D d → c.has d = false) → MV Γ obj w c v → MV Γ' obj' w' c v := by
  intro c
  induction c with
  | any => intro v _ _; trivial
  | t x => intro v hd hm; exact MT.ext h hd hm
  | tup l => intro v hd hm; obtain ⟨vs, rfl, hv⟩ := hm; exact ⟨vs, rfl, MTs.ext h hd hv⟩
  | ro n f =>
    intro v hd hm
    obtain ⟨b, off, rfl, hb, hf⟩ := hm
    refine ⟨b, off, rfl, h.sub b hb, fun i hi => ?_⟩
    obtain ⟨u, hu, hm⟩ := hf i hi
    exact ⟨u, by rw [World.cell?_of_block (w := w) (h.keep b hb)]; exact hu, MS.mono h.sub h.keep hm⟩
  | oel id i j =>
    intro v hd hm
    have hD : ¬ D id := fun hD => by have := hd id hD; simp [AV.has] at this
    obtain ⟨k, rfl, hk⟩ := hm
    refine ⟨k, by rw [(h.agree id hD).1], fun o ho' => ?_⟩
    obtain ⟨o1, h1, h2⟩ := ho id o hD ho'
    rw [h2]; exact hk o1 h1
  | whn p x ih => intro v hd hm; exact ⟨fun hp => ih hd (hm.1 hp), hm.2⟩

/-- An owned object stays, where its block stays. -/
theorem MO.ext (h : Ext D Γ w Γ' w') {id : Nat} {o : AObj} (hid : ¬ D id) (hd : ∀ d, D d → o.has d = false) (hb : ∀ b, fp Γ id o b → w'.heap[b]? = w.heap[b]?) (hm : MO Γ w id o) : MO Γ' w' id o := by
  obtain ⟨e1, e2⟩ := h.agree id hid
  cases o with
  | row cells =>
    obtain ⟨cs, T, h1, h2⟩ := hm
    exact ⟨cs, T, by rw [e1, hb _ ⟨rfl, trivial⟩]; exact h1, MCs.ext h hd h2⟩
  | grow T k α d row l =>
    rcases hm with ⟨h1, h2⟩ | ⟨cap, cur, h1, h2, h3, h4, h5, h6⟩
    · exact .inl ⟨by rw [e2]; exact h1, h2⟩
    · refine .inr ⟨cap, cur, by rw [e2, e1]; exact h1, by rw [e1, hb _ ⟨rfl, by rw [h1]; simp⟩]; exact h2, h3, h4, h5, fun j x hx i hi => ?_⟩
      obtain ⟨u, hu, hm⟩ := h6 j x hx i hi
      exact ⟨u, hu, MS.mono h.sub h.keep hm⟩
  | arr k n α d row l =>
    obtain ⟨cur, T, h1, h2, h3, h4⟩ := hm
    refine ⟨cur, T, by rw [e1, hb _ ⟨rfl, trivial⟩]; exact h1, h2, h3, fun j x hx i hi => ?_⟩
    obtain ⟨u, hu, hm⟩ := h4 j x hx i hi
    exact ⟨u, hu, MS.mono h.sub h.keep hm⟩
  | iter s pos => simp only [MO] at hm ⊢; rw [e1, hb _ ⟨rfl, trivial⟩]; exact hm
  | hole T k α d row l i e =>
    obtain ⟨cap, cur, h1, h2, h3, h4, h5, ⟨h6, h7⟩, h8⟩ := hm
    have he : ¬ D e := fun hD => by have := hd e hD; simp [AObj.has] at this
    have e3 := (h.agree e he).2
    refine ⟨cap, cur, by rw [e2, e1]; exact h1, by rw [e1, hb _ ⟨rfl, trivial⟩]; exact h2, h3, h4, h5, ⟨by rw [e3]; exact h6, by rw [e3]; exact h7⟩, fun j x hx c hc hn => ?_⟩
    obtain ⟨u, hu, hm⟩ := h8 j x hx c hc hn
    exact ⟨u, hu, MS.mono h.sub h.keep hm⟩

theorem fp.ext (h : Agree D Γ Γ') {id : Nat} {o : AObj} (hid : ¬ D id) {b : Nat} : fp Γ' id o b ↔ fp Γ id o b := by
  obtain ⟨e1, e2⟩ := h id hid
  cases o <;> simp [fp, e1, e2]
end

/-! ### A slot set -/
def AS.set (s : AS) (dst : Option Tmp) (v : AV) : AS :=
  match dst with
  | none => s
  | some d => { s with reg := fun t => bif Nat.beq t d then v else s.reg t }

theorem beq_false {a b : Nat} (h : a ≠ b) : Nat.beq a b = false := by
  cases hb : Nat.beq a b with
  | false => rfl
  | true => exact absurd (Nat.eq_of_beq_eq_true hb) h

theorem conc_set {G Γ s a w dst v u} (h : Conc G Γ s a w) (hd : ∀ d, dst = some d → d < s.n) (hv : MV Γ s.obj w v u) : Conc G Γ (s.set dst v) (a.put dst u) w := by
  cases dst with
  | none => exact h
  | some d =>
    have hlt := hd d rfl
    refine ⟨by simp [Act.put, AS.set, h.size], h.defers, fun t => ?_, h.heap, h.g, h.ids⟩
    simp only [AS.set, Act.put]
    by_cases ht : t = d
    · subst ht
      have : (a.tmps.setIfInBounds t u).getD t undef = u := by simp [Array.getD, h.size, hlt]
      rw [this, show Nat.beq t t = true from Nat.beq_refl t]
      exact hv
    · have : (a.tmps.setIfInBounds d u).getD t undef = a.tmps.getD t undef := by
        simp only [Array.getD_eq_getD_getElem?]
        rw [Array.getElem?_setIfInBounds_ne (Ne.symm ht)]
      rw [this, beq_false ht]
      exact h.regs t

/-! ### Contracts -/
/-- f is a function of the program with a body, and is entered by a call. -/
def Callable (P : Program) (f : FuncId) : Prop := ∃ fn, P.funcs[f]? = some fn ∧ fn.body.isSome = true ∧ (fn.name == "runtime.NumGoroutine") = false

/-- The blocks that a call may not touch: those that are there, but for its own objects'. -/
def prOf (Γ : Ctx) (H : Nat → Option AObj) (w : World) (b : Nat) : Prop := b < w.heap.size ∧ ∀ id o, H id = some o → ¬ fp Γ id o b

/-- The call of f with these arguments, owning the objects of H, returns 'res' and owns those of H'. -/
def Spec (P : Program) (f : FuncId) (args : List TV) (H : Nat → Option AObj) (res : AV) (H' : Nat → Option AObj) : Prop :=
  Callable P f ∧ ∀ (Γ : Ctx) (w : World) (cargs : Array Value), HeapOk Γ H w → MTs Γ w args cargs.toList →
    Calls P f cargs w fun e w' => ∃ v Γ', e = .returned v ∧ MV Γ' H' w' res v ∧ HeapOk Γ' H' w' ∧ GOk ⟨w, prOf Γ H w, Γ.I, Γ.ρ, Γ.η, []⟩ Γ' H' w' ∧
      Agree (fun id => H' id ≠ none ∧ H id = none) Γ Γ'

def H0 : Nat → Option AObj := fun _ => none

/-- A contract of a function that owns nothing and hands out nothing that is its own. -/
abbrev Pure (P : Program) (f : FuncId) (args : List TV) (res : AV) : Prop := Spec P f args H0 res H0
end AL
