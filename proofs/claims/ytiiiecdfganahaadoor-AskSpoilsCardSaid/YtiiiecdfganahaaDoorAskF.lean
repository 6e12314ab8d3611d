/- ask: requests, in plain Lean. No condition. -/
import Derived.Test.YtiiiecdfganahaaDoorAskD
namespace AL.Ask
open Go AL
open AL.Sep (splitC joinC)
open AL.Policy (RuleV textP parseP checkP)
open AL.Rows (namedS)
set_option linter.unusedVariables false
set_option linter.unusedSimpArgs false

structure AskV where
  op : Int
  token : Bytes
  path : Bytes
  other : Bytes
  n : Int
  cas : Int
  flag : Bool
  ns : List Int
  data : Bytes
  rules : List RuleV
  key : Bytes
theorem AskV.eq_iff (a b : AskV) : a = b ↔ a.op = b.op ∧ a.token = b.token ∧ a.path = b.path ∧ a.other = b.other ∧ a.n = b.n ∧ a.cas = b.cas ∧ a.flag = b.flag ∧ a.ns = b.ns ∧ a.data = b.data ∧ a.rules = b.rules ∧ a.key = b.key := by
  constructor
  · intro h; subst h; simp
  · intro h; cases a; cases b; simp_all
instance : DecidableEq AskV := fun a b => decidable_of_iff _ (AskV.eq_iff a b).symm
def askd : AskV := ⟨0, [], [], [], 0, 0, false, [], [], [], []⟩
def rowA (a : AskV) (i : Nat) : SC := match i with
  | 0 => u8 a.op | 1 => st a.token | 2 => st a.path | 3 => st a.other | 4 => i6 a.n | 5 => i6 a.cas | 6 => bo a.flag | 7 => Fnv.slI a.ns | 8 => st a.data | 9 => Policy.slP a.rules | _ => st a.key

/-- The cells of a request. -/
abbrev rwA (a : AskV) : List AC := [.s (u8 a.op), .s (st a.token), .s (st a.path), .s (st a.other), .s (i6 a.n), .s (i6 a.cas), .s (bo a.flag), .s (Fnv.slI a.ns), .s (st a.data), .s (Policy.slP a.rules), .s (st a.key)]

/-! ### forms -/
def wordsL : List Bytes := [[], [115, 116, 97, 116, 117, 115], [117, 110, 115, 101, 97, 108], [115, 101, 97, 108], [114, 111, 116, 97, 116, 101], [109, 111, 117, 110, 116], [117, 110, 109, 111, 117, 110, 116], [109, 97, 107, 101], [114, 101, 118, 111, 107, 101], [114, 101, 97, 100], [119, 114, 105, 116, 101], [100, 101, 108, 101, 116, 101], [117, 110, 100, 101, 108, 101, 116, 101], [100, 101, 115, 116, 114, 111, 121], [109, 101, 116, 97], [99, 111, 110, 102, 105, 103], [112, 117, 114, 103, 101], [108, 105, 115, 116], [99, 111, 112, 121]]
def kindsL : List Bytes := [[], [], [107], [116], [116], [116, 112, 110, 102], [116, 112], [116, 109, 114], [116, 109], [116, 112, 110], [116, 112, 99, 100], [116, 112, 108], [116, 112, 108], [116, 112, 108], [116, 112], [116, 112, 110, 102], [116, 112], [116, 112], [116, 112, 113]]
def wordS (op : Int) : Bytes := List.getD wordsL op.toNat []
def kindS (op : Int) : Bytes := List.getD kindsL op.toNat []
theorem getD_in {l : List Bytes} {i : Nat} (h : List.getD l i [] ≠ []) : List.getD l i [] ∈ l := by
  rcases Nat.lt_or_ge i l.length with q | q
  · exact Lib.getD_mem [] l i q
  · rw [List.getD_eq_getElem?_getD, List.getElem?_eq_none q] at h; exact absurd rfl h
theorem kind_mem (op : Int) {b : UInt8} (h : b ∈ kindS op) : kindS op ∈ kindsL := getD_in fun e => by
  have e : kindS op = [] := e
  rw [e] at h; cases h
/-- A letter. -/
def LetI (c : Int) : Prop := c = 116 ∨ c = 112 ∨ c = 109 ∨ c = 113 ∨ c = 110 ∨ c = 99 ∨ c = 102 ∨ c = 108 ∨ c = 100 ∨ c = 114 ∨ c = 107
instance (c : Int) : Decidable (LetI c) := inferInstanceAs (Decidable (_ ∨ _))
/-- Two letters of two fields. -/
def Apart (c d : Int) : Prop := c ≠ d ∧ ¬ (c = 109 ∧ d = 113) ∧ ¬ (c = 113 ∧ d = 109)
instance (c d : Int) : Decidable (Apart c d) := inferInstanceAs (Decidable (_ ∧ _))
theorem kinds_let : ∀ l ∈ kindsL, (∀ b ∈ l, LetI (b.toNat : Int)) ∧ l.Pairwise fun b d => Apart (b.toNat : Int) (d.toNat : Int) := by decide +kernel
theorem kind_let (op : Int) : (∀ b ∈ kindS op, LetI (b.toNat : Int)) ∧ (kindS op).Pairwise fun b d => Apart (b.toNat : Int) (d.toNat : Int) := by
  by_cases h : kindS op = []
  · rw [h]; exact ⟨fun b hb => (by cases hb), List.Pairwise.nil⟩
  · exact kinds_let _ (getD_in h)
theorem let_low {b : UInt8} (h : LetI (b.toNat : Int)) : b.toNat < 128 := by unfold LetI at h; omega
theorem kind_dec (op : Int) {pos : Nat} (h : pos < (kindS op).length) : decS (kindS op) pos = ((List.getD (kindS op) pos 0).toNat, 1) :=
  Policy.dec_low h (let_low ((kind_let op).1 _ (Lib.getD_mem 0 _ pos h)))
theorem words_len : wordsL.length = 19 ∧ kindsL.length = 19 := by decide
theorem word_out {op : Int} (h : 19 ≤ op) : wordS op = [] ∧ kindS op = [] := by
  unfold wordS kindS
  rw [List.getD_eq_getElem?_getD, List.getD_eq_getElem?_getD, List.getElem?_eq_none (by rw [words_len.1]; omega), List.getElem?_eq_none (by rw [words_len.2]; omega)]
  exact ⟨rfl, rfl⟩
theorem word_nil {op : Int} : wordS op = [] ↔ op < 1 ∨ 18 < op := by
  constructor
  · intro h
    apply Classical.byContradiction
    intro hn
    have key : ∀ i, i < 19 → 1 ≤ i → List.getD wordsL i [] ≠ [] := by decide
    exact key op.toNat (by omega) (by omega) h
  · rintro (h | h)
    · unfold wordS; rw [show op.toNat = 0 by omega]; rfl
    · exact (word_out (by omega)).1
def opS (w : Bytes) : Int := match (List.range 18).find? (fun i => decide (List.getD wordsL (i + 1) [] = w)) with
  | some i => (i : Int) + 1
  | none => 0
theorem op_some {w : Bytes} {k : Nat} (h1 : 1 ≤ k) (h2 : k ≤ 18) (h : List.getD wordsL k [] = w) : opS w = k := by
  have key : ∀ i, i < 18 → ∀ j, j < 18 → List.getD wordsL (i + 1) [] = List.getD wordsL (j + 1) [] → i = j := by decide
  unfold opS
  cases hf : (List.range 18).find? (fun i => decide (List.getD wordsL (i + 1) [] = w)) with
  | none =>
    rw [List.find?_eq_none] at hf
    exact absurd (decide_eq_true (by rw [show k - 1 + 1 = k by omega]; exact h)) (hf (k - 1) (List.mem_range.2 (by omega)))
  | some i =>
    have e0 := List.find?_some hf
    have e1 := of_decide_eq_true e0
    have e2 := List.mem_range.1 (List.mem_of_find?_eq_some hf)
    have := key i e2 (k - 1) (by omega) (by rw [e1, ← h, show k - 1 + 1 = k by omega])
    show (i : Int) + 1 = k
    omega
theorem op_none {w : Bytes} (h : ∀ k, 1 ≤ k → k ≤ 18 → ¬ List.getD wordsL k [] = w) : opS w = 0 := by
  unfold opS
  cases hf : (List.range 18).find? (fun i => decide (List.getD wordsL (i + 1) [] = w)) with
  | none => rfl
  | some i =>
    have e0 := List.find?_some hf
    have e1 := of_decide_eq_true e0
    have e2 := List.mem_range.1 (List.mem_of_find?_eq_some hf)
    exact absurd e1 (h (i + 1) (by omega) (by omega))
theorem op_rng (w : Bytes) : opS w = 0 ∨ (1 ≤ opS w ∧ opS w ≤ 18 ∧ wordS (opS w) = w) := by
  by_cases h : ∃ k, 1 ≤ k ∧ k ≤ 18 ∧ List.getD wordsL k [] = w
  · obtain ⟨k, h1, h2, h3⟩ := h
    right
    rw [op_some h1 h2 h3]
    exact ⟨by omega, by omega, h3⟩
  · left
    exact op_none fun k h1 h2 h3 => h ⟨k, h1, h2, h3⟩
theorem op_word {op : Int} (h1 : 1 ≤ op) (h2 : op ≤ 18) : opS (wordS op) = op := by
  have := op_some (w := wordS op) (k := op.toNat) (by omega) (by omega) rfl
  rw [this]; omega

/-! ### fields -/
def fineS (b : Bool) : Int := if b = true then 0 else 4
theorem fine_0 {b : Bool} : fineS b = 0 ↔ b = true := by unfold fineS; cases b <;> simp
def withinI (n lo hi : Int) : Bool := decide (lo ≤ n) && decide (n ≤ hi)
def okNs (l : List Int) : Bool := decide (l.length ≤ 6) && l.all fun n => withinI n 1 999
def fieldS (a : AskV) (c : Int) : Int :=
  if c = 116 then fineS (namedS a.token) else if c = 109 then fineS (namedS a.other) else if c = 112 then Route.checkS a.path else if c = 113 then Route.checkS a.other else if c = 110 then fineS (withinI a.n 0 999) else
  if c = 99 then fineS (withinI a.cas (-1) 999) else if c = 108 then fineS (okNs a.ns) else if c = 114 then checkP a.rules else if c = 107 then fineS (decide (a.key.length = 16)) else 0
def withoutS (a : AskV) (c : Int) : AskV :=
  if c = 116 then { a with token := [] } else if c = 112 then { a with path := [] } else if c = 109 ∨ c = 113 then { a with other := [] } else if c = 110 then { a with n := 0 } else if c = 99 then { a with cas := 0 } else
  if c = 102 then { a with flag := false } else if c = 108 then { a with ns := [] } else if c = 100 then { a with data := [] } else if c = 114 then { a with rules := [] } else if c = 107 then { a with key := [] } else a
def setA (b a : AskV) (c : Int) : AskV :=
  if c = 116 then { b with token := a.token } else if c = 112 then { b with path := a.path } else if c = 109 ∨ c = 113 then { b with other := a.other } else if c = 110 then { b with n := a.n } else if c = 99 then { b with cas := a.cas } else
  if c = 102 then { b with flag := a.flag } else if c = 108 then { b with ns := a.ns } else if c = 100 then { b with data := a.data } else if c = 114 then { b with rules := a.rules } else if c = 107 then { b with key := a.key } else b
def orN (s : Bytes) : Bytes := if s = [] then [45] else s
def listS (l : List Int) : Bytes := joinC 44 (l.map numS)
def layA (a : AskV) (c : Int) : Bytes :=
  if c = 116 then a.token else if c = 112 then a.path else if c = 109 ∨ c = 113 then a.other else if c = 110 then numS a.n else if c = 99 then (if a.cas = -1 then [45] else numS a.cas) else
  if c = 102 then (if a.flag = true then [49] else [48]) else if c = 108 then orN (listS a.ns) else if c = 100 then orN (hexS a.data) else if c = 114 then orN (textP a.rules).1 else hexS a.key
def numbersS (s : Bytes) : List Int := (splitC 44 s).map scanN
def readA (a : AskV) (c : Int) (s : Bytes) : AskV × Int :=
  if c = 116 then ({ a with token := s }, fineS (namedS s)) else if c = 112 then ({ a with path := s }, Route.checkS s) else if c = 109 then ({ a with other := s }, fineS (namedS s)) else if c = 113 then ({ a with other := s }, Route.checkS s) else
  if c = 110 then ({ a with n := scanN s }, fineS (withinI (scanN s) 0 999)) else if c = 99 then (if s = [45] then ({ a with cas := -1 }, 0) else ({ a with cas := scanN s }, fineS (decide (0 ≤ scanN s)))) else
  if c = 102 then ({ a with flag := decide (s = [49]) }, fineS (decide (s = [49]) || decide (s = [48]))) else if c = 108 then (if s = [45] then (a, fineS (okNs a.ns)) else ({ a with ns := numbersS s }, fineS (okNs (numbersS s)))) else
  if c = 100 then (if s = [45] then (a, 0) else ({ a with data := (unhexS s).1 }, fineS ((unhexS s).2 && !decide (s = [])))) else if c = 114 then (if s = [45] then (a, 0) else if s = [] then (a, 4) else ({ a with rules := (parseP s).1 }, (parseP s).2)) else
  if c = 107 then ({ a with key := (unhexS s).1 }, fineS ((unhexS s).2 && decide ((unhexS s).1.length = 16))) else (a, 0)

/-- Only the field of a letter counts. -/
theorem field_set (b a : AskV) {c : Int} (h : LetI c) : fieldS (setA b a c) c = fieldS a c ∧ layA (setA b a c) c = layA a c := by
  rcases h with h | h | h | h | h | h | h | h | h | h | h <;> subst h <;> exact ⟨rfl, rfl⟩
theorem set_apart (b a x : AskV) {c d : Int} (h : LetI c) (h2 : LetI d) (h3 : Apart c d) : setA b (setA x a d) c = setA b x c := by
  unfold Apart at h3
  rcases h with h | h | h | h | h | h | h | h | h | h | h <;> subst h <;> (rcases h2 with h2 | h2 | h2 | h2 | h2 | h2 | h2 | h2 | h2 | h2 | h2 <;> subst h2 <;> first | rfl | (exfalso; simp at h3; done))
theorem without_set (a x : AskV) {c d : Int} (h : LetI c) (h2 : LetI d) (h3 : Apart c d) : withoutS (setA x a d) c = setA (withoutS x c) a d := by
  unfold Apart at h3
  rcases h with h | h | h | h | h | h | h | h | h | h | h <;> subst h <;> (rcases h2 with h2 | h2 | h2 | h2 | h2 | h2 | h2 | h2 | h2 | h2 | h2 <;> subst h2 <;> first | rfl | (exfalso; simp at h3; done))
theorem without_apart (a x : AskV) {c d : Int} (h : LetI c) (h2 : LetI d) (h3 : Apart c d) (hz : withoutS x c = x) : withoutS (setA x a d) c = setA x a d := by
  rw [without_set a x h h2 h3, hz]
theorem set_set (b a : AskV) {c : Int} (h : LetI c) : setA b (setA b a c) c = setA b a c := by
  rcases h with h | h | h | h | h | h | h | h | h | h | h <;> subst h <;> rfl
theorem set_op (b a : AskV) (c : Int) : (setA b a c).op = b.op := by
  unfold setA
  repeat' split
  all_goals rfl
end AL.Ask
