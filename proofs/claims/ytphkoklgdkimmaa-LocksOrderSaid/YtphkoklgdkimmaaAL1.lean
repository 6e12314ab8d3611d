/- An abstract logic over the kit's 'Code.wp': abstract cells and values, owned objects, their meaning in a world, and that the meaning is kept when the world grows. No condition. -/
import Derived.WalkKit
namespace AL
open Go
set_option linter.unusedVariables false

abbrev Bytes := List UInt8

/-- A shared cell: data that nobody changes any more. -/
inductive SC : Type 1
  | any
  | int (k : IntKind) (n : Int)
  | bool (b : Bool)
  | str (s : Bytes)
  | nilsl
  | sl (k : Nat) (α : Type) (d : α) (row : α → Nat → SC) (l : List α)
  | nilptr
  | val (v : Value)
  | ref (n : Nat) (f : Nat → SC)
  | nn (c : SC)

def ba (s : Bytes) : ByteArray := ⟨s.toArray⟩

/-- A number is one of its kind. -/
def InR (k : IntKind) (n : Int) : Prop := k.min ≤ n ∧ n ≤ k.max
instance (k n) : Decidable (InR k n) := inferInstanceAs (Decidable (_ ∧ _))

/-- What a shared cell says of a value: it is read in the blocks of I. -/
def MS (I : Nat → Prop) (w : World) : SC → Value → Prop
  | .any, v => v.oneCell' = true
  | .int k n, v => v = .int k n ∧ InR k n
  | .bool b, v => v = .bool b
  | .str s, v => v = .string (ba s) ∧ s.length ≤ maxLen
  | .nilsl, v => v = .slice none 0 0
  | .nilptr, v => v = .pointer none
  | .nn c, v => MS I w c v ∧ ∃ a n cap, v = .slice (some a) n cap
  | .val u, v => v = u ∧ u.oneCell' = true
  | .ref n f, v => ∃ b off, v = .pointer (some ⟨b, off, none⟩) ∧ I b ∧ ∀ i, i < n → ∃ u, w.cell? ⟨b, off + i, none⟩ = some u ∧ MS I w (f i) u
  | .sl k _ _ row l, v => ∃ a cap, v = .slice a l.length cap ∧ l.length ≤ cap ∧ cap ≤ maxLen ∧
      ((l = [] ∧ (a = none → cap = 0)) ∨ ∃ b off, a = some ⟨b, off, none⟩ ∧ I b ∧
        ∀ j x, l[j]? = some x → ∀ i, i < k → ∃ u, w.cell? ⟨b, off + j * k + i, none⟩ = some u ∧ MS I w (row x i) u)

theorem MS.one {I w c v} (h : MS I w c v) : v.oneCell' = true := by
  cases c <;> simp only [MS] at h
  · exact h
  all_goals first | (subst h; rfl) | (obtain ⟨a, cap, rfl, _⟩ := h; rfl) | (obtain ⟨b, off, rfl, _⟩ := h; rfl) | (obtain ⟨_, a, n, cap, rfl⟩ := h; rfl) | (obtain ⟨rfl, h⟩ := h; first | rfl | exact h)

theorem MS.mono {I I' : Nat → Prop} {w w' : World} (hI : ∀ b, I b → I' b) (hw : ∀ b, I b → w'.heap[b]? = w.heap[b]?) :
    ∀ {c v}, MS I w c v → MS I' w' c v := by
  intro c
  induction c with
  | sl k α d row l ih =>
    intro v h
    simp only [MS] at h ⊢
    obtain ⟨a, cap, rfl, h1, h2, h3⟩ := h
    refine ⟨a, cap, rfl, h1, h2, ?_⟩
    rcases h3 with h3 | ⟨b, off, rfl, hb, h3⟩
    · exact .inl h3
    · refine .inr ⟨b, off, rfl, hI b hb, fun j x hx i hi => ?_⟩
      obtain ⟨u, hu, hm⟩ := h3 j x hx i hi
      exact ⟨u, by rw [World.cell?_of_block (w := w) (hw b hb)]; exact hu, ih _ _ hm⟩
  | ref n f ih =>
    intro v h
    simp only [MS] at h ⊢
    obtain ⟨b, off, rfl, hb, h3⟩ := h
    refine ⟨b, off, rfl, hI b hb, fun i hi => ?_⟩
    obtain ⟨u, hu, hm⟩ := h3 i hi
    exact ⟨u, by rw [World.cell?_of_block (w := w) (hw b hb)]; exact hu, ih _ hm⟩
  | nn c ih => intro v h; exact ⟨ih h.1, h.2⟩
  | _ => intro v h; simpa only [MS] using h

/-- What a captured variable is: a shared cell, or a pointer to an owned object. -/
inductive Cap : Type 1
  | s (c : SC)
  | ptr (id off : Nat)

/-- A cell of the frame or of an owned object. -/
inductive AC : Type 1
  | s (c : SC)
  | ptr (id off : Nat)
  | own (id : Nat)
  | fn (f : FuncId) (caps : List Cap)

/-- The meaning of the names: which blocks are shared, the block of an id, the header of an owned slice. -/
structure Ctx where
  I : Nat → Prop
  ρ : Nat → Nat
  η : Nat → Value

def MCap (Γ : Ctx) (w : World) : Cap → Value → Prop
  | .s c, v => MS Γ.I w c v
  | .ptr id off, v => v = .pointer (some ⟨Γ.ρ id, off, none⟩)

def MCaps (Γ : Ctx) (w : World) : List Cap → List Value → Prop
  | [], [] => True
  | c :: cs, v :: vs => MCap Γ w c v ∧ MCaps Γ w cs vs
  | _, _ => False

def MC (Γ : Ctx) (w : World) : AC → Value → Prop
  | .s c, v => MS Γ.I w c v
  | .ptr id off, v => v = .pointer (some ⟨Γ.ρ id, off, none⟩)
  | .own id, v => v = Γ.η id ∧ v.oneCell' = true
  | .fn f caps, v => ∃ cs : Array Value, v = .func (.func f) #[] cs ∧ MCaps Γ w caps cs.toList

theorem MC.one {Γ w c v} (h : MC Γ w c v) : v.oneCell' = true := by
  cases c <;> simp only [MC] at h
  · exact h.one
  · subst h; rfl
  · exact h.2
  · obtain ⟨cs, rfl, _⟩ := h; rfl

def MCs (Γ : Ctx) (w : World) : List AC → List Value → Prop
  | [], [] => True
  | c :: cs, v :: vs => MC Γ w c v ∧ MCs Γ w cs vs
  | _, _ => False

/-- A component of a tuple, or a plain value: one cell, or a struct or array by value. -/
inductive TV : Type 1
  | c (a : AC)
  | agg (l : List AC)
  | arr (k n : Nat) (α : Type) (d : α) (row : α → Nat → SC) (l : List α)

def MT (Γ : Ctx) (w : World) : TV → Value → Prop
  | .c a, v => MC Γ w a v
  | .agg l, v => ∃ cs : Array Value, v = .agg cs ∧ MCs Γ w l cs.toList
  | .arr k n _ _ row l, v => ∃ cs : Array Value, v = .agg cs ∧ l.length = n ∧ cs.size = n * k ∧
      ∀ j x, l[j]? = some x → ∀ i, i < k → ∃ u, cs[j * k + i]? = some u ∧ MS Γ.I w (row x i) u

def MTs (Γ : Ctx) (w : World) : List TV → List Value → Prop
  | [], [] => True
  | c :: cs, v :: vs => MT Γ w c v ∧ MTs Γ w cs vs
  | _, _ => False

/-- What a slot holds. 'ro': a pointer to n shared cells; 'oel': a pointer to cell j of element i of an owned slice or array; 'when': known under a condition. -/
inductive AV : Type 1
  | any
  | t (x : TV)
  | tup (l : List TV)
  | ro (n : Nat) (f : Nat → SC)
  | oel (id : Nat) (i : Nat) (j : Nat)
  | whn (p : Prop) (x : AV)

/-- An owned object. -/
inductive AObj : Type 1
  | row (cells : List AC)
  | grow (T : TypeId) (k : Nat) (α : Type) (d : α) (row : α → Nat → SC) (l : List α)
  | arr (k n : Nat) (α : Type) (d : α) (row : α → Nat → SC) (l : List α)
  | iter (s : Bytes) (pos : Nat)

/-- The width of an owned row of elements (for 'oel'). -/
def AObj.width : AObj → Nat
  | .grow _ k _ _ _ _ => k
  | .arr k _ _ _ _ _ => k
  | _ => 0

def MV (Γ : Ctx) (obj : Nat → Option AObj) (w : World) : AV → Value → Prop
  | .any, _ => True
  | .t x, v => MT Γ w x v
  | .tup l, v => ∃ vs : Array Value, v = .tuple vs ∧ MTs Γ w l vs.toList
  | .ro n f, v => ∃ b off, v = .pointer (some ⟨b, off, none⟩) ∧ Γ.I b ∧ ∀ i, i < n → ∃ u, w.cell? ⟨b, off + i, none⟩ = some u ∧ MS Γ.I w (f i) u
  | .oel id i j, v => ∃ k, v = .pointer (some ⟨Γ.ρ id, i * k + j, none⟩) ∧ ∀ o, obj id = some o → o.width = k
  | .whn p x, v => (p → MV Γ obj w x v) ∧ (¬ p → v = undef)

/-- The block that an owned object stands in (the header of an owned slice may be nil: none). -/
def fp (Γ : Ctx) (id : Nat) (ob : AObj) (b : Nat) : Prop :=
  Γ.ρ id = b ∧ (match ob with | .grow .. => Γ.η id ≠ .slice none 0 0 | _ => True)

def MO (Γ : Ctx) (w : World) (id : Nat) : AObj → Prop
  | .row cells => ∃ (cs : Array Value) (T : TypeId), w.heap[Γ.ρ id]? = some (.cells cs T (0, 0)) ∧ MCs Γ w cells cs.toList
  | .grow T k α d row l => (Γ.η id = .slice none 0 0 ∧ l = []) ∨
      ∃ (cap : Nat) (cur : Array Value), Γ.η id = .slice (some ⟨Γ.ρ id, 0, none⟩) l.length cap ∧ w.heap[Γ.ρ id]? = some (.cells cur T (0, 0)) ∧
        l.length ≤ cap ∧ cap ≤ maxLen ∧ cur.size = cap * k ∧
        ∀ j x, l[j]? = some x → ∀ i, i < k → ∃ u, cur[j * k + i]? = some u ∧ MS Γ.I w (row x i) u
  | .arr k n α d row l => ∃ (cur : Array Value) (T : TypeId), w.heap[Γ.ρ id]? = some (.cells cur T (0, 0)) ∧ l.length = n ∧ cur.size = n * k ∧
        ∀ j x, l[j]? = some x → ∀ i, i < k → ∃ u, cur[j * k + i]? = some u ∧ MS Γ.I w (row x i) u
  | .iter s pos => w.heap[Γ.ρ id]? = some (.stringIter (ba s) pos)

structure HeapOk (Γ : Ctx) (obj : Nat → Option AObj) (w : World) : Prop where
  objs : ∀ id ob, obj id = some ob → MO Γ w id ob
  lt : ∀ id ob b, obj id = some ob → fp Γ id ob b → b < w.heap.size ∧ ¬ Γ.I b
  inj : ∀ id ob id' ob' b, obj id = some ob → obj id' = some ob' → fp Γ id ob b → fp Γ id' ob' b → id = id'
  ilt : ∀ b, Γ.I b → b < w.heap.size

/-- What was there when the call began: the world, the blocks that the call may not touch, the blocks that are shared. -/
structure Gd where
  w : World
  pr : Nat → Prop
  I : Nat → Prop
  ρ : Nat → Nat
  η : Nat → Value

structure GOk (G : Gd) (Γ : Ctx) (obj : Nat → Option AObj) (w : World) : Prop where
  os : w.os = G.w.os
  tape : w.tape = G.w.tape
  output : w.output = G.w.output
  size : G.w.heap.size ≤ w.heap.size
  prlt : ∀ b, G.pr b → b < G.w.heap.size
  keep : ∀ b, G.pr b → w.heap[b]? = G.w.heap[b]?
  sub : ∀ b, G.I b → Γ.I b
  bak : ∀ b, G.pr b → Γ.I b → G.I b
  own : ∀ id ob b, obj id = some ob → fp Γ id ob b → ¬ G.pr b

/-- An abstract state: n slots, what each holds, the owned objects. -/
structure AS where
  n : Nat
  reg : Nat → AV
  obj : Nat → Option AObj

structure Conc (G : Gd) (Γ : Ctx) (s : AS) (a : Act) (w : World) : Prop where
  size : a.tmps.size = s.n
  defers : a.defers = []
  regs : ∀ t, MV Γ s.obj w (s.reg t) (a.tmps.getD t undef)
  heap : HeapOk Γ s.obj w
  g : GOk G Γ s.obj w
  ids : ∀ id, s.n ≤ id → Γ.ρ id = G.ρ id ∧ Γ.η id = G.η id
end AL
