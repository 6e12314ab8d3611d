/- under: what its functions compute, in plain Lean. No condition. -/
import Derived.Test.YtfedegdihgeelaaDoorLibD
import Derived.Test.YtfedegdihgeelaaDoorFnvD
import Derived.Test.YtfedegdihgeelaaDoorALe
import Derived.Sort.Walk0
import Derived.Lib.SlicesCompact
import Derived.Lib.Strings
import Derived.Lib.Bytealg
namespace AL.Under
open Go AL
set_option linter.unusedVariables false
set_option linter.unusedSimpArgs false

abbrev slS (l : List Bytes) : SC := .sl 1 Bytes [] AL.Fnv.rowS l
def hasP (s p : Bytes) : Bool := p.isPrefixOf s
def trimP (s p : Bytes) : Bytes := if hasP s p then s.drop p.length else s
def restS (s top : Bytes) : Bytes × Bool := if top = [] then (s, !decide (s = [])) else if hasP s top then (trimP (trimP s top) [47], hasP (trimP s top) [47]) else ([], false)
def belowS (s top : Bytes) : Bool := (restS s top).2
def withinS (s top : Bytes) : Bool := decide (s = top) || belowS s top
def firstS : Bytes → Bytes
  | [] => []
  | b :: l => if b = 47 then [47] else b :: firstS l
def childS (s top : Bytes) : Bytes × Bool := if belowS s top then (firstS (restS s top).1, true) else ([], false)
def parentS (s : Bytes) : Bytes := (s.reverse.dropWhile (fun b => b != 47)).tail.reverse
def comm (a b : Bytes) : Nat → Bytes
  | 0 => []
  | n + 1 => if withinS a (List.take (n + 1) a) && withinS b (List.take (n + 1) a) then List.take (n + 1) a else comm a b n
def commonS (a b : Bytes) : Bytes := comm a b a.length
def endsS (s : Bytes) (n : Nat) : Bool := decide ((n : Int) = (List.length s : Int)) || decide (((List.getD s n 0).toNat : Int) = 47)
def intoS : List Bytes → Bytes → List Bytes
  | [], s => [s]
  | y :: l, s => if Op.bytesLess y s then y :: intoS l s else if y = s then y :: l else s :: y :: l
def keptS (top : Bytes) (l : List Bytes) : List Bytes := l.filterMap fun s => if belowS s top then some (childS s top).1 else none
def sortS (l : List Bytes) : List Bytes := l.foldl intoS []
def childrenS (top : Bytes) (l : List Bytes) : List Bytes := sortS (keptS top l)
def longS (s : Bytes) (l : List Bytes) : Nat → Int
  | 0 => -1
  | k + 1 => if withinS s (List.getD l k []) && (decide (longS s l k < 0) || decide ((List.length (List.getD l (longS s l k).toNat []) : Int) < (List.length (List.getD l k []) : Int))) then (k : Int) else longS s l k
def longestS (s : Bytes) (l : List Bytes) : Int := longS s l l.length
def nestedS (s : Bytes) (l : List Bytes) : Bool := l.any fun t => withinS s t || withinS t s
def inS (l : List Bytes) (s : Bytes) : Bool := l.any fun x => decide (x = s)

theorem byte47 {b : UInt8} : ((b.toNat : Nat) : Int) = 47 ↔ b = 47 := by
  constructor
  · intro h; apply UInt8.toNat_inj.1; show b.toNat = 47; omega
  · rintro rfl; rfl

-- rest, below, within
theorem hasP_iff {s p : Bytes} : hasP s p = true ↔ p <+: s := by unfold hasP; exact List.isPrefixOf_iff_prefix
theorem pre_drop {s p q : Bytes} (h : p <+: s) : (p ++ q <+: s) ↔ q <+: s.drop p.length := by
  obtain ⟨r, rfl⟩ := h
  rw [List.drop_left]
  constructor
  · rintro ⟨t, ht⟩
    rw [List.append_assoc] at ht
    exact ⟨t, List.append_cancel_left ht⟩
  · rintro ⟨t, rfl⟩
    exact ⟨t, by rw [List.append_assoc]⟩
theorem rest_two {s top : Bytes} (h : top ≠ []) : (restS s top).2 = true ↔ top ++ [47] <+: s := by
  unfold restS
  rw [if_neg h]
  by_cases hp : hasP s top = true
  · rw [if_pos hp]
    have : trimP s top = s.drop top.length := by unfold trimP; rw [if_pos hp]
    rw [this, hasP_iff, pre_drop (hasP_iff.1 hp)]
  · rw [if_neg hp]
    constructor
    · intro h; cases h
    · intro h; exact absurd (hasP_iff.2 ((List.prefix_append _ _).trans h)) hp
theorem below_iff {s top : Bytes} : belowS s top = true ↔ s ≠ top ∧ (top = [] ∨ top ++ [47] <+: s) := by
  by_cases h : top = []
  · subst h
    unfold belowS restS
    simp
  · unfold belowS
    rw [rest_two h]
    constructor
    · intro hp
      refine ⟨fun e => ?_, .inr hp⟩
      subst e
      have := hp.length_le
      simp at this
      try omega
    · rintro ⟨_, hp | hp⟩
      · exact absurd hp h
      · exact hp
theorem within_iff {s top : Bytes} : withinS s top = true ↔ s = top ∨ top = [] ∨ top ++ [47] <+: s := by
  unfold withinS
  rw [Bool.or_eq_true, decide_eq_true_eq, below_iff]
  by_cases h : s = top <;> simp [h]
theorem within_ref (s top : Bytes) : (decide (top = []) || decide (s = top) || hasP s (top ++ [47])) = withinS s top := by
  rw [Bool.eq_iff_iff, within_iff, Bool.or_eq_true, Bool.or_eq_true, decide_eq_true_eq, decide_eq_true_eq, hasP_iff]
  constructor
  · rintro ((h | h) | h) <;> simp [h]
  · rintro (h | h | h) <;> simp [h]
theorem below_ref (s top : Bytes) : (withinS s top && !decide (s = top)) = belowS s top := by
  rw [Bool.eq_iff_iff, Bool.and_eq_true, within_iff, below_iff, Bool.not_eq_true', decide_eq_false_iff_not]
  constructor
  · rintro ⟨h | h, h2⟩
    · exact absurd h h2
    · exact ⟨h2, h⟩
  · rintro ⟨h, h2⟩
    exact ⟨.inr h2, h⟩
theorem rest_one {s top : Bytes} (h : belowS s top = true) : (restS s top).1 = if top = [] then s else s.drop (top.length + 1) := by
  by_cases ht : top = []
  · rw [if_pos ht]; unfold restS; rw [if_pos ht]
  · rw [if_neg ht]
    have h2 := (rest_two ht).1 h
    have hp := hasP_iff.2 ((List.prefix_append top [47]).trans h2)
    have h3 := (pre_drop (hasP_iff.1 hp)).1 h2
    unfold restS
    rw [if_neg ht, if_pos hp]
    have e : trimP s top = s.drop top.length := by unfold trimP; rw [if_pos hp]
    show trimP (trimP s top) [47] = _
    rw [e]
    unfold trimP
    rw [if_pos (hasP_iff.2 h3), List.drop_drop]
    rfl
theorem below_len {s top : Bytes} (h : belowS s top = true) (ht : top ≠ []) : top.length + 1 ≤ s.length := by
  have := ((rest_two ht).1 h).length_le
  simpa using this
theorem rest_len (s top : Bytes) : (restS s top).1.length ≤ s.length := by
  unfold restS trimP
  split <;> try split <;> try split
  all_goals (try split) <;> simp <;> omega

-- child
theorem first_at {t : Bytes} : ∀ (i : Nat), i < t.length → (∀ x ∈ List.take i t, x ≠ 47) → List.getD t i 0 = 47 → firstS t = List.take (i + 1) t := by
  induction t with
  | nil => intro i h; cases h
  | cons b l ih =>
    intro i hi hN h
    cases i with
    | zero =>
      have hb : b = 47 := h
      simp [firstS, hb]
    | succ j =>
      have hb : b ≠ 47 := hN b (by simp)
      have := ih j (by simpa using hi) (fun x hx => hN x (by simp [hx])) h
      simp [firstS, hb, this]
theorem first_no {t : Bytes} (hN : ∀ x ∈ t, x ≠ 47) : firstS t = t := by
  induction t with
  | nil => rfl
  | cons b l ih =>
    have hb : b ≠ 47 := hN b (by simp)
    simp [firstS, hb, ih (fun x hx => hN x (by simp [hx]))]
theorem index_lt (t : Bytes) : -1 ≤ Go.Lib.indexByte t 47 ∧ Go.Lib.indexByte t 47 < t.length := by
  induction t with
  | nil => simp [Go.Lib.indexByte]
  | cons b l ih =>
    unfold Go.Lib.indexByte
    simp only [List.length_cons]
    split
    · omega
    · split
      · omega
      · rename_i h; simp at h; omega
theorem first_index (t : Bytes) : firstS t = if 0 ≤ Go.Lib.indexByte t 47 then List.take (Go.Lib.indexByte t 47).toNat t ++ [47] else t := by
  induction t with
  | nil => rfl
  | cons b l ih =>
    have hl := index_lt l
    unfold Go.Lib.indexByte firstS
    by_cases hb : b = 47
    · simp [hb]
    · simp only [hb, if_false, beq_iff_eq]
      rw [ih]
      by_cases h1 : Go.Lib.indexByte l 47 = -1
      · simp [h1]
      · rw [if_neg h1, if_pos (by omega), if_pos (by omega)]
        have : (Go.Lib.indexByte l 47 + 1).toNat = (Go.Lib.indexByte l 47).toNat + 1 := by omega
        rw [this]; rfl
theorem first_len (t : Bytes) : (firstS t).length ≤ t.length + 1 := by
  rw [first_index]; split
  · simp; omega
  · omega
theorem child_below (s top : Bytes) : (childS s top).2 = belowS s top := by unfold childS; cases belowS s top <;> rfl
theorem child_none {s top : Bytes} (h : belowS s top = false) : childS s top = ([], false) := by unfold childS; rw [if_neg (by simp [h])]
theorem child_some {s top : Bytes} (h : belowS s top = true) : childS s top = (firstS (restS s top).1, true) := by unfold childS; rw [if_pos h]

-- parent
theorem parent_nil : parentS [] = [] := rfl
theorem parent_t (s : Bytes) (k : Nat) (hk : k < s.length) (h : List.getD s k 0 = 47) : parentS (List.take (k + 1) s) = List.take k s := by
  unfold parentS
  rw [Lib.take_succ 0 s k hk, h]
  simp
theorem parent_f (s : Bytes) (k : Nat) (hk : k < s.length) (h : List.getD s k 0 ≠ 47) : parentS (List.take (k + 1) s) = parentS (List.take k s) := by
  unfold parentS
  rw [Lib.take_succ 0 s k hk, List.reverse_append, List.reverse_singleton, List.singleton_append, List.dropWhile_cons, if_pos (by simpa using h)]
theorem parent_below (s : Bytes) (h : s ≠ []) : belowS s (parentS s) = true := by
  have key : ∀ k, k ≤ s.length → parentS (List.take k s) = [] ∨ ∃ j, j < k ∧ parentS (List.take k s) = List.take j s ∧ List.getD s j 0 = 47 := by
    intro k
    induction k with
    | zero => intro _; exact .inl rfl
    | succ k ih =>
      intro hk
      by_cases hb : List.getD s k 0 = 47
      · exact .inr ⟨k, by omega, parent_t s k (by omega) hb, hb⟩
      · rw [parent_f s k (by omega) hb]
        rcases ih (by omega) with h | ⟨j, h1, h2, h3⟩
        · exact .inl h
        · exact .inr ⟨j, by omega, h2, h3⟩
  have hk := key s.length (Nat.le_refl _)
  rw [List.take_length] at hk
  rw [below_iff]
  rcases hk with hk | ⟨j, h1, h2, h3⟩
  · rw [hk]; exact ⟨h, .inl rfl⟩
  · rw [h2]
    refine ⟨fun e => ?_, .inr ?_⟩
    · have := congrArg List.length e
      simp at this; omega
    · rw [← h3, ← Lib.take_succ 0 s j h1]
      exact List.take_prefix _ _

-- what two have in common
theorem within_pre {s t : Bytes} (h : withinS s t = true) : t <+: s := by
  rcases within_iff.1 h with h | h | h
  · rw [h]; exact List.prefix_refl _
  · rw [h]; exact List.nil_prefix
  · exact (List.prefix_append _ _).trans h
theorem ends_within (s : Bytes) (n : Nat) (h0 : 0 < n) (hn : n ≤ s.length) : withinS s (List.take n s) = endsS s n := by
  rw [Bool.eq_iff_iff, within_iff]
  unfold endsS
  rw [Bool.or_eq_true, decide_eq_true_eq, decide_eq_true_eq, byte47]
  constructor
  · rintro (h | h | h)
    · have := congrArg List.length h
      rw [List.length_take] at this
      left; omega
    · have := congrArg List.length h
      rw [List.length_take] at this
      simp only [List.length_nil] at this; omega
    · right
      obtain ⟨r, hr⟩ := h
      have hl := congrArg List.length hr
      simp at hl
      have : List.getD s n 0 = List.getD (List.take n s ++ [47] ++ r) n 0 := by rw [hr]
      rw [this, List.append_assoc, List.getD_eq_getElem?_getD, List.getElem?_append_right (by simp; omega)]
      simp [List.length_take, Nat.min_eq_left hn]
  · rintro (h | h)
    · left; rw [List.take_of_length_le (by omega)]
    · by_cases e : n = s.length
      · left; rw [List.take_of_length_le (by omega)]
      · right; right
        have := Lib.take_succ 0 s n (by omega)
        rw [h] at this
        rw [← this]
        exact List.take_prefix _ _
theorem comm_top {a b : Bytes} {n : Nat} (h : ∀ m, n < m → m ≤ a.length → withinS b (List.take m a) = false) : ∀ k, n + k ≤ a.length → comm a b (n + k) = comm a b n := by
  intro k
  induction k with
  | zero => intro _; rfl
  | succ k ih =>
    intro hk
    show comm a b ((n + k) + 1) = _
    rw [comm, h (n + k + 1) (by omega) hk, Bool.and_false, if_neg (by simp)]
    exact ih (by omega)
theorem comm_start {a b : Bytes} {n : Nat} (ha : n ≤ a.length) (hb : n ≤ b.length) (he : List.take n a = List.take n b)
    (hx : ¬ (n < a.length ∧ n < b.length ∧ List.getD a n 0 = List.getD b n 0)) : commonS a b = comm a b n := by
  unfold commonS
  have := comm_top (a := a) (b := b) (n := n) (fun m hm hma => by
    cases hw : withinS b (List.take m a) with
    | false => rfl
    | true =>
      obtain ⟨r, hr⟩ := within_pre hw
      exfalso
      apply hx
      have hl := congrArg List.length hr
      simp at hl
      refine ⟨by omega, by omega, ?_⟩
      rw [← hr, List.getD_eq_getElem?_getD, List.getD_eq_getElem?_getD, List.getElem?_append_left (by simp; omega), List.getElem?_take_of_lt (by omega)]) (a.length - n) (by omega)
  rw [show n + (a.length - n) = a.length by omega] at this
  exact this
theorem comm_hit {a b : Bytes} {n : Nat} (h0 : 0 < n) (h : (withinS a (List.take n a) && withinS b (List.take n a)) = true) : comm a b n = List.take n a := by
  cases n with
  | zero => omega
  | succ n => unfold comm; rw [if_pos h]
theorem comm_miss {a b : Bytes} {n : Nat} (h0 : 0 < n) (h : (withinS a (List.take n a) && withinS b (List.take n a)) = false) : comm a b n = comm a b (n - 1) := by
  cases n with
  | zero => omega
  | succ n => show comm a b (n + 1) = comm a b n; rw [comm, if_neg (by simp [h])]
theorem comm_zero (a b : Bytes) : comm a b 0 = [] := rfl
theorem within_nil (s : Bytes) : withinS s [] = true := within_iff.2 (.inr (.inl rfl))
theorem within_self (s : Bytes) : withinS s s = true := within_iff.2 (.inl rfl)
theorem below_self (s : Bytes) : belowS s s = false := by
  cases h : belowS s s with
  | false => rfl
  | true => exact absurd rfl (below_iff.1 h).1
theorem within_trans {a b c : Bytes} (h1 : withinS a b = true) (h2 : withinS b c = true) : withinS a c = true := by
  rw [within_iff] at *
  rcases h1 with rfl | rfl | h1
  · exact h2
  · rcases h2 with h | h | h
    · exact .inr (.inl h.symm)
    · exact .inr (.inl h)
    · have := h.length_le; simp at this
  · rcases h2 with rfl | h | h
    · exact .inr (.inr h1)
    · exact .inr (.inl h)
    · exact .inr (.inr (h.trans ((List.prefix_append _ _).trans h1)))
theorem within_anti {a b : Bytes} (h1 : withinS a b = true) (h2 : withinS b a = true) : a = b :=
  (within_pre h2).eq_of_length (Nat.le_antisymm (within_pre h2).length_le (within_pre h1).length_le)
/-- Of two that one is within, the longer one is within the shorter one. -/
theorem within_chain {a x y : Bytes} (hx : withinS a x = true) (hy : withinS a y = true) (hl : x.length ≤ y.length) : withinS y x = true := by
  have hp := List.prefix_of_prefix_length_le (within_pre hx) (within_pre hy) hl
  rw [within_iff]
  by_cases e : x.length = y.length
  · exact .inl (hp.eq_of_length e).symm
  · rcases within_iff.1 hx with h | h | h
    · subst h
      have := (within_pre hy).length_le
      omega
    · exact .inr (.inl h)
    · exact .inr (.inr (List.prefix_of_prefix_length_le h (within_pre hy) (by simp; omega)))
theorem comm_spec (a b : Bytes) : ∀ n, withinS a (comm a b n) = true ∧ withinS b (comm a b n) = true ∧ ∀ c : Bytes, c.length ≤ n → withinS a c = true → withinS b c = true → withinS (comm a b n) c = true := by
  intro n
  induction n with
  | zero => exact ⟨within_nil _, within_nil _, fun c hc _ _ => by rw [List.eq_nil_of_length_eq_zero (Nat.le_zero.1 hc)]; exact within_nil _⟩
  | succ n ih =>
    unfold comm
    split
    · rename_i h
      rw [Bool.and_eq_true] at h
      refine ⟨h.1, h.2, fun c hc h1 h2 => ?_⟩
      have hca := (within_pre h1).length_le
      refine within_chain h1 h.1 ?_
      rw [List.length_take]; omega
    · rename_i h
      refine ⟨ih.1, ih.2.1, fun c hc h1 h2 => ?_⟩
      by_cases e : c.length ≤ n
      · exact ih.2.2 c e h1 h2
      · exfalso; apply h
        have : c = List.take (n + 1) a := by
          obtain ⟨r, hr⟩ := within_pre h1
          rw [← hr, List.take_append_of_le_length (by omega), List.take_of_length_le (by omega)]
        rw [← this, h1, h2]; rfl
theorem common_a (a b : Bytes) : withinS a (commonS a b) = true := (comm_spec a b _).1
theorem common_b (a b : Bytes) : withinS b (commonS a b) = true := (comm_spec a b _).2.1
theorem common_max {a b c : Bytes} (h1 : withinS a c = true) (h2 : withinS b c = true) : withinS (commonS a b) c = true :=
  (comm_spec a b _).2.2 c (within_pre h1).length_le h1 h2
theorem common_comm (a b : Bytes) : commonS a b = commonS b a :=
  within_anti (common_max (common_b b a) (common_a b a)) (common_max (common_b a b) (common_a a b))
theorem common_self (a : Bytes) : commonS a a = a := within_anti (common_max (within_self a) (within_self a)) (common_a a a)
theorem common_nil (a : Bytes) : commonS a [] = [] := within_anti (within_nil _) (common_b a [])
-- rising rows of texts
theorem bl (x y : Bytes) : Op.bytesLess x y = decide (x < y) := Go.Proofs.bytesLess_eq x y
def Rise (l : List Bytes) : Prop := l.Pairwise (· < ·)
theorem lt_of_not {x y : Bytes} (h1 : ¬ x < y) (h2 : x ≠ y) : y < x := by
  by_cases h : y < x
  · exact h
  · exact absurd (List.le_antisymm (List.not_lt.1 h) (List.not_lt.1 h1)) h2
theorem into_mem {l : List Bytes} {s x : Bytes} : x ∈ intoS l s ↔ x = s ∨ x ∈ l := by
  induction l with
  | nil => simp [intoS]
  | cons y l ih =>
    unfold intoS
    split
    · simp only [List.mem_cons, ih]; grind
    · split <;> grind
theorem into_rise {l : List Bytes} {s : Bytes} (h : Rise l) : Rise (intoS l s) := by
  induction l with
  | nil => simp [intoS, Rise]
  | cons y l ih =>
    obtain ⟨h1, h2⟩ := List.pairwise_cons.1 h
    unfold intoS
    split
    · rename_i hb
      rw [bl, decide_eq_true_eq] at hb
      refine List.pairwise_cons.2 ⟨fun x hx => ?_, ih h2⟩
      rcases into_mem.1 hx with rfl | hx
      · exact hb
      · exact h1 x hx
    · rename_i hb
      rw [bl, decide_eq_true_eq] at hb
      split
      · exact h
      · rename_i he
        have hs := lt_of_not hb he
        refine List.pairwise_cons.2 ⟨fun x hx => ?_, h⟩
        rcases List.mem_cons.1 hx with rfl | hx
        · exact hs
        · exact List.lt_trans hs (h1 x hx)
theorem fold_spec (l : List Bytes) : ∀ m, Rise m → Rise (l.foldl intoS m) ∧ ∀ x, x ∈ l.foldl intoS m ↔ x ∈ l ∨ x ∈ m := by
  induction l with
  | nil => intro m h; exact ⟨h, fun x => by simp⟩
  | cons y l ih =>
    intro m h
    obtain ⟨h1, h2⟩ := ih (intoS m y) (into_rise h)
    exact ⟨h1, fun x => by rw [List.foldl_cons, h2, into_mem]; simp only [List.mem_cons]; grind⟩
theorem sort_rise (l : List Bytes) : Rise (sortS l) := (fold_spec l [] List.Pairwise.nil).1
theorem sort_mem {l : List Bytes} {x : Bytes} : x ∈ sortS l ↔ x ∈ l := by
  have := (fold_spec l [] List.Pairwise.nil).2 x
  simp only [List.not_mem_nil, or_false] at this
  exact this
theorem rise_eq : ∀ {l m : List Bytes}, Rise l → Rise m → (∀ x, x ∈ l ↔ x ∈ m) → l = m := by
  intro l
  induction l with
  | nil =>
    intro m _ _ h
    cases m with
    | nil => rfl
    | cons y m => exact absurd ((h y).2 (by simp)) (by simp)
  | cons x l ih =>
    intro m hl hm h
    cases m with
    | nil => exact absurd ((h x).1 (by simp)) (by simp)
    | cons y m =>
      obtain ⟨h1, h2⟩ := List.pairwise_cons.1 hl
      obtain ⟨h3, h4⟩ := List.pairwise_cons.1 hm
      have e : x = y := by
        have hx := (h x).1 (by simp)
        have hy := (h y).2 (by simp)
        rcases List.mem_cons.1 hx with hx | hx
        · exact hx
        · rcases List.mem_cons.1 hy with hy | hy
          · exact hy.symm
          · exact absurd (List.lt_trans (h1 y hy) (h3 x hx)) (List.lt_irrefl x)
      subst e
      congr 1
      refine ih h2 h4 fun z => ?_
      constructor
      · intro hz
        rcases List.mem_cons.1 ((h z).1 (List.mem_cons_of_mem _ hz)) with e | e
        · subst e; exact absurd (h1 z hz) (List.lt_irrefl z)
        · exact e
      · intro hz
        rcases List.mem_cons.1 ((h z).2 (List.mem_cons_of_mem _ hz)) with e | e
        · subst e; exact absurd (h3 z hz) (List.lt_irrefl z)
        · exact e
theorem compact_go (d : Array Bytes) (hs : ∀ i j, i < j → j < d.size → d[i]! ≤ d[j]!) : ∀ m, m ≤ d.size →
    Rise (Go.Lib.compactUpTo d m) ∧ (∀ x ∈ Go.Lib.compactUpTo d m, ∃ j, j < m ∧ x = d[j]!) ∧ (∀ j, j < m → d[j]! ∈ Go.Lib.compactUpTo d m) := by
  intro m
  induction m with
  | zero => intro _; exact ⟨List.Pairwise.nil, fun x hx => by simp [Go.Lib.compactUpTo] at hx, fun j hj => by omega⟩
  | succ m ih =>
    intro hm
    obtain ⟨h1, h2, h3⟩ := ih (by omega)
    rw [Go.Lib.compactUpTo_succ]
    by_cases hk : Go.Lib.keeps d m = true
    · rw [if_pos hk]
      refine ⟨List.pairwise_append.2 ⟨h1, List.pairwise_singleton _ _, fun x hx y hy => ?_⟩, fun x hx => ?_, fun j hj => ?_⟩
      · rw [List.mem_singleton.1 hy]
        obtain ⟨j, hj, rfl⟩ := h2 x hx
        unfold Go.Lib.keeps at hk
        rw [decide_eq_true_eq] at hk
        have hne : d[m]! ≠ d[m - 1]! := hk.resolve_left (by omega)
        have l1 : d[m - 1]! ≤ d[m]! := hs _ _ (by omega) (by omega)
        have l2 : d[m - 1]! < d[m]! := by
          by_cases h : d[m - 1]! < d[m]!
          · exact h
          · exact absurd (List.le_antisymm (List.not_lt.1 h) l1) hne
        by_cases e : j = m - 1
        · rw [e]; exact l2
        · have l3 : d[j]! ≤ d[m - 1]! := hs _ _ (by omega) (by omega)
          by_cases h : d[j]! < d[m]!
          · exact h
          · have l4 := List.le_antisymm l3 (List.le_trans l1 (List.not_lt.1 h))
            rw [l4]; exact l2
      · rcases List.mem_append.1 hx with hx | hx
        · obtain ⟨j, hj, e⟩ := h2 x hx; exact ⟨j, by omega, e⟩
        · exact ⟨m, by omega, List.mem_singleton.1 hx⟩
      · by_cases e : j = m
        · subst e; simp
        · exact List.mem_append_left _ (h3 j (by omega))
    · rw [if_neg hk, List.append_nil]
      refine ⟨h1, fun x hx => ?_, fun j hj => ?_⟩
      · obtain ⟨j, hj, e⟩ := h2 x hx; exact ⟨j, by omega, e⟩
      · by_cases e : j = m
        · subst e
          unfold Go.Lib.keeps at hk
          simp only [decide_eq_true_eq, not_or, Decidable.not_not] at hk
          rw [hk.2]; exact h3 (j - 1) (by omega)
        · exact h3 j (by omega)
theorem compact_sort (l : List Bytes) : Go.Lib.compact (l.mergeSort fun x y => decide (x ≤ y)) = sortS l := by
  have hp : (l.mergeSort fun x y => decide (x ≤ y)).Pairwise fun x y => decide (x ≤ y) = true := List.pairwise_mergeSort (fun a b c h1 h2 => by
    simp only [decide_eq_true_eq] at *; exact List.le_trans h1 h2) (fun a b => by simp only [Bool.or_eq_true, decide_eq_true_eq]; exact Std.le_total) l
  have hm := List.mergeSort_perm l fun x y => decide (x ≤ y)
  generalize (l.mergeSort fun x y => decide (x ≤ y)) = z at hp hm
  have hs : ∀ i j, i < j → j < z.toArray.size → z.toArray[i]! ≤ z.toArray[j]! := by
    intro i j hij hj
    have hj' : j < z.length := by simpa using hj
    have := List.pairwise_iff_getElem.1 hp i j (by omega) hj' hij
    rw [decide_eq_true_eq] at this
    rw [getElem!_pos _ i (by simpa using Nat.lt_trans hij hj'), getElem!_pos _ j (by simpa using hj')]
    simpa using this
  obtain ⟨h1, h2, h3⟩ := compact_go z.toArray hs z.length (by simp)
  refine rise_eq h1 (sort_rise l) fun x => ?_
  rw [sort_mem, ← hm.mem_iff]
  constructor
  · intro hx
    obtain ⟨j, hj, rfl⟩ := h2 x hx
    rw [getElem!_pos _ j (by simpa using hj)]
    simp
  · intro hx
    obtain ⟨j, hj, rfl⟩ := List.mem_iff_getElem.1 hx
    have := h3 j hj
    rw [getElem!_pos _ j (by simpa using hj)] at this
    have e : z.toArray[j]'(by simpa using hj) = z[j] := by simp
    rw [e] at this
    exact this

theorem kept_t (top : Bytes) (l : List Bytes) (k : Nat) (hk : k < l.length) (h : (childS (List.getD l k []) top).2 = true) : keptS top (List.take k l) ++ [(childS (List.getD l k []) top).1] = keptS top (List.take (k + 1) l) := by
  rw [Lib.take_succ [] l k hk]
  unfold keptS
  rw [child_below] at h
  rw [List.filterMap_append]
  simp only [List.filterMap_cons, List.filterMap_nil, h, if_true]
theorem kept_f (top : Bytes) (l : List Bytes) (k : Nat) (hk : k < l.length) (h : (childS (List.getD l k []) top).2 = false) : keptS top (List.take k l) = keptS top (List.take (k + 1) l) := by
  rw [Lib.take_succ [] l k hk]
  unfold keptS
  rw [child_below] at h
  rw [List.filterMap_append]
  simp only [List.filterMap_cons, List.filterMap_nil, h, Bool.false_eq_true, if_false, List.append_nil]
theorem kept_len (top : Bytes) (l : List Bytes) : (keptS top l).length ≤ l.length := List.length_filterMap_le _ _
theorem children_t (top : Bytes) (l : List Bytes) (k : Nat) (hk : k < l.length) (h : (childS (List.getD l k []) top).2 = true) : intoS (childrenS top (List.take k l)) (childS (List.getD l k []) top).1 = childrenS top (List.take (k + 1) l) := by
  unfold childrenS
  rw [← kept_t top l k hk h]
  unfold sortS
  rw [List.foldl_append]; rfl
theorem children_f (top : Bytes) (l : List Bytes) (k : Nat) (hk : k < l.length) (h : (childS (List.getD l k []) top).2 = false) : childrenS top (List.take k l) = childrenS top (List.take (k + 1) l) := by
  unfold childrenS
  rw [← kept_f top l k hk h]
theorem into_len (l : List Bytes) (s : Bytes) : (intoS l s).length ≤ l.length + 1 := by
  induction l with
  | nil => simp [intoS]
  | cons y l ih => unfold intoS; split <;> try split
                   all_goals simp only [List.length_cons]
                   all_goals omega
theorem fold_len (l : List Bytes) : ∀ m, (l.foldl intoS m).length ≤ m.length + l.length := by
  induction l with
  | nil => intro m; simp
  | cons y l ih => intro m; rw [List.foldl_cons]; have := ih (intoS m y); have := into_len m y; simp only [List.length_cons]; omega
theorem children_len (top : Bytes) (l : List Bytes) : (childrenS top l).length ≤ l.length := by
  have h1 := fold_len (keptS top l) []
  have h2 := kept_len top l
  unfold childrenS sortS
  simp only [List.length_nil] at h1
  omega
theorem children_mem {top x : Bytes} {l : List Bytes} : x ∈ childrenS top l ↔ ∃ s ∈ l, belowS s top = true ∧ x = (childS s top).1 := by
  unfold childrenS
  rw [sort_mem]
  unfold keptS
  rw [List.mem_filterMap]
  constructor
  · rintro ⟨s, h1, h2⟩
    by_cases h : belowS s top = true
    · rw [if_pos h] at h2; exact ⟨s, h1, h, (Option.some.inj h2).symm⟩
    · rw [if_neg h] at h2; cases h2
  · rintro ⟨s, h1, h2, rfl⟩
    exact ⟨s, h1, by rw [if_pos h2]⟩
/-- Insertion at the first place that is not less. -/
theorem into_at {l : List Bytes} {s : Bytes} : ∀ (k : Nat), k ≤ l.length → (∀ y ∈ List.take k l, Op.bytesLess y s = true) → (k < l.length → Op.bytesLess (List.getD l k []) s = false) →
    intoS l s = if k < l.length ∧ List.getD l k [] = s then l else List.take k l ++ [s] ++ List.drop k l := by
  induction l with
  | nil => intro k hk _ _; simp at hk; subst hk; rfl
  | cons y l ih =>
    intro k hk h1 h2
    cases k with
    | zero =>
      have hb : Op.bytesLess y s = false := h2 (by simp)
      unfold intoS
      rw [hb]
      simp
    | succ k =>
      have hb : Op.bytesLess y s = true := h1 y (by simp)
      have := ih k (by simpa using hk) (fun z hz => h1 z (by simp [hz])) (fun hk => h2 (by simpa using hk))
      unfold intoS
      rw [hb, if_pos rfl, this]
      have e : List.getD (y :: l) (k + 1) [] = List.getD l k [] := rfl
      rw [e]
      simp only [List.length_cons, Nat.add_lt_add_iff_right, List.take_succ_cons, List.drop_succ_cons]
      split <;> simp

-- the longest one
theorem long_lt (s : Bytes) (l : List Bytes) : ∀ k, -1 ≤ longS s l k ∧ longS s l k < k := by
  intro k
  induction k with
  | zero => simp [longS]
  | succ k ih => unfold longS; split <;> omega
theorem long_step (s : Bytes) (l : List Bytes) (k : Nat) : longS s l (k + 1) = if withinS s (List.getD l k []) && (decide (longS s l k < 0) || decide ((List.length (List.getD l (longS s l k).toNat []) : Int) < (List.length (List.getD l k []) : Int))) then (k : Int) else longS s l k := rfl
def sizeS (l : List Bytes) (o : Int) : Int := if o < 0 then -1 else ((List.getD l o.toNat []).length : Int)
theorem size_test (l : List Bytes) (o : Int) (n : Nat) : decide (sizeS l o < (n : Int)) = (decide (o < 0) || decide ((List.length (List.getD l o.toNat []) : Int) < (n : Int))) := by
  unfold sizeS
  by_cases h : o < 0
  · rw [if_pos h, decide_eq_true h, decide_eq_true (by omega)]; rfl
  · rw [if_neg h, decide_eq_false h, Bool.false_or]
theorem size_k (l : List Bytes) (k : Nat) : sizeS l (k : Int) = (List.length (List.getD l k []) : Int) := by
  unfold sizeS; rw [if_neg (by omega)]; rfl
theorem long_t {s : Bytes} {l : List Bytes} {k : Nat} (h1 : withinS s (List.getD l k []) = true) (h2 : sizeS l (longS s l k) < (List.length (List.getD l k []) : Int)) : longS s l (k + 1) = k := by
  have h3 := decide_eq_true h2
  rw [size_test] at h3
  rw [long_step, h1, h3]; rfl
theorem long_f {s : Bytes} {l : List Bytes} {k : Nat} (h : ¬ (sizeS l (longS s l k) < (List.length (List.getD l k []) : Int) ∧ withinS s (List.getD l k []) = true)) : longS s l (k + 1) = longS s l k := by
  rw [long_step, ← size_test, if_neg]
  intro q
  rw [Bool.and_eq_true, decide_eq_true_eq] at q
  exact h ⟨q.2, q.1⟩
def cutS (s : Bytes) : Bytes × Bytes × Bool := if 0 ≤ Go.Lib.indexByte s 47 then (List.take (Go.Lib.indexByte s 47).toNat s, List.drop (Go.Lib.indexByte s 47 + (List.length ([47] : List UInt8) : Int)).toNat s, true) else (s, [], false)
theorem cut_t {s : Bytes} (h : (cutS s).2.2 = true) : firstS s = (cutS s).1 ++ [47] := by
  unfold cutS at *
  rw [first_index]
  split at h
  · rename_i h2; rw [if_pos h2, if_pos h2]
  · cases h
theorem cut_f {s : Bytes} (h : (cutS s).2.2 = false) : firstS s = s := by
  unfold cutS at h
  rw [first_index]
  split at h
  · cases h
  · rename_i h2; rw [if_neg h2]
theorem cut_len (s : Bytes) : (cutS s).1.length ≤ s.length := by
  unfold cutS; split
  · simp only [List.length_take]; omega
  · exact Nat.le_refl _
theorem no_step {t : Bytes} {i : Nat} (hi : i < t.length) (hN : ∀ x ∈ List.take i t, x ≠ 47) (h : ¬ ((List.getD t i 0).toNat : Int) = 47) : ∀ x ∈ List.take (i + 1) t, x ≠ 47 := by
  rw [AL.Lib.take_succ 0 t i hi]
  intro x hx
  rcases List.mem_append.1 hx with hx | hx
  · exact hN x hx
  · rw [List.mem_singleton.1 hx]; exact fun e => h (byte47.2 e)
theorem less_step {l : List Bytes} {s : Bytes} {k : Nat} (hk : k < l.length) (hN : ∀ y ∈ List.take k l, Op.bytesLess y s = true) (h : Op.bytesLess (List.getD l k []) s = true) : ∀ y ∈ List.take (k + 1) l, Op.bytesLess y s = true := by
  rw [AL.Lib.take_succ [] l k hk]
  intro x hx
  rcases List.mem_append.1 hx with hx | hx
  · exact hN x hx
  · rw [List.mem_singleton.1 hx]; exact h
theorem hasP_long {s t : Bytes} (h : s.length < t.length) : hasP s t = false := by
  cases e : hasP s t with
  | false => rfl
  | true => have := (hasP_iff.1 e).length_le; omega
theorem byte_inj {a b : UInt8} (h : ((a.toNat : Nat) : Int) = (b.toNat : Int)) : a = b := UInt8.toNat_inj.1 (by omega)
theorem hasP_ne {s t : Bytes} {i : Nat} (hi : i < t.length) (h : ¬ ((List.getD s i 0).toNat : Int) = ((List.getD t i 0).toNat : Int)) : hasP s t = false := by
  cases e : hasP s t with
  | false => rfl
  | true =>
    exfalso; apply h
    obtain ⟨r, rfl⟩ := hasP_iff.1 e
    rw [List.getD_eq_getElem?_getD, List.getElem?_append_left hi, ← List.getD_eq_getElem?_getD]
theorem hasP_end {s t : Bytes} {i : Nat} (hi : t.length ≤ i) (hs : t.length ≤ s.length) (he : List.take i s = List.take i t) : hasP s t = true := by
  rw [List.take_of_length_le hi] at he
  exact hasP_iff.2 (by rw [← he]; exact List.take_prefix _ _)
theorem take_byte {a b : Bytes} {k : Nat} (ha : k < a.length) (hb : k < b.length) (he : List.take k a = List.take k b) (h : ((List.getD a k 0).toNat : Int) = ((List.getD b k 0).toNat : Int)) : List.take (k + 1) a = List.take (k + 1) b :=
  AL.Lib.same_step 0 a b k ha hb he (byte_inj h)
theorem nested_idx (s : Bytes) (l : List Bytes) : decide (0 ≤ AL.Lib.idxS (fun t => withinS s t || withinS t s) l) = nestedS s l := by
  unfold nestedS
  rw [Bool.eq_iff_iff, decide_eq_true_eq, List.any_eq_true]
  constructor
  · intro h
    obtain ⟨h1, _⟩ := AL.Lib.idx_pos [] h
    exact ⟨_, AL.Lib.getD_mem [] l _ (by have := AL.Lib.idx_lt (fun t => withinS s t || withinS t s) l; omega), h1⟩
  · rintro ⟨x, hx, hp⟩
    by_cases h : 0 ≤ AL.Lib.idxS (fun t => withinS s t || withinS t s) l
    · exact h
    · have h2 : (fun t => withinS s t || withinS t s) x = false := AL.Lib.idx_neg (p := fun t => withinS s t || withinS t s) (by omega) x hx
      exact absurd (h2.symm.trans hp) (by decide)
theorem any_false {p : Bytes → Bool} (l : List Bytes) (i : Nat) (hi : i < l.length) (h : ∀ x ∈ List.take i l, p x = false) (hx : p (List.getD l i []) = false) : ∀ x ∈ List.take (i + 1) l, p x = false := AL.Lib.all_step [] l i hi h hx
theorem any_end {p : Bytes → Bool} (l : List Bytes) (i : Nat) (hi : l.length ≤ i) (h : ∀ x ∈ List.take i l, p x = false) : l.any p = false := by
  rw [List.take_of_length_le hi] at h
  rw [List.any_eq_false]
  intro x hx; rw [h x hx]; decide
theorem any_hit {p : Bytes → Bool} (l : List Bytes) (i : Nat) (hi : i < l.length) (h : p (List.getD l i []) = true) : l.any p = true := List.any_eq_true.2 ⟨_, AL.Lib.getD_mem [] l i hi, h⟩
theorem in_iff {l : List Bytes} {s : Bytes} : inS l s = true ↔ s ∈ l := by
  unfold inS; rw [List.any_eq_true]
  constructor
  · rintro ⟨x, hx, h⟩; rw [decide_eq_true_eq] at h; rw [← h]; exact hx
  · intro h; exact ⟨s, h, by simp⟩
theorem over_len {l : List Bytes} (h : AL.Fnv.overS l ≤ 0) : l.length ≤ 40 ∧ ∀ x ∈ l, x.length ≤ 200 := by
  unfold AL.Fnv.overS at h
  by_cases h1 : 40 < l.length
  · rw [if_pos h1] at h; omega
  · rw [if_neg h1] at h
    by_cases h2 : l.any (fun s => decide (200 < s.length)) = true
    · rw [if_pos h2] at h; omega
    · refine ⟨by omega, fun x hx => ?_⟩
      rw [Bool.not_eq_true, List.any_eq_false] at h2
      have := h2 x hx
      simp at this; exact this
theorem getD_len {l : List Bytes} {n : Nat} (h : ∀ x ∈ l, x.length ≤ n) (k : Nat) (hk : k < l.length) : (List.getD l k []).length ≤ n := h _ (AL.Lib.getD_mem [] l k hk)

-- what the law asks of the children
theorem children_rise {top : Bytes} {l : List Bytes} (i : Nat) (h0 : 0 < i) (hi : i < (childrenS top l).length) : Op.bytesLess (List.getD (childrenS top l) (i - 1) []) (List.getD (childrenS top l) i []) = true := by
  rw [bl, decide_eq_true_eq, AL.Lib.getD_lt _ _ _ (by omega), AL.Lib.getD_lt _ _ _ hi]
  exact List.pairwise_iff_getElem.1 (sort_rise (keptS top l)) (i - 1) i (by show _ < (childrenS top l).length; omega) hi (by omega)
theorem children_half {top x : Bytes} {l : List Bytes} (k : Nat) (h : x ∈ childrenS top l) : inS (childrenS top (List.take k l)) x = true ∨ inS (childrenS top (List.drop k l)) x = true := by
  rw [in_iff, in_iff]
  obtain ⟨s, h1, h2, h3⟩ := children_mem.1 h
  rw [← List.take_append_drop k l] at h1
  rcases List.mem_append.1 h1 with h1 | h1
  · exact .inl (children_mem.2 ⟨s, h1, h2, h3⟩)
  · exact .inr (children_mem.2 ⟨s, h1, h2, h3⟩)
theorem children_twice (top : Bytes) (l : List Bytes) : childrenS top (([] ++ l) ++ l) = childrenS top l :=
  rise_eq (sort_rise _) (sort_rise _) fun x => by
    show x ∈ childrenS top _ ↔ x ∈ childrenS top l
    rw [children_mem, children_mem]
    simp
theorem child_cut_t {s top : Bytes} (h : (restS s top).2 = true) (h2 : (cutS (restS s top).1).2.2 = true) : childS s top = ((cutS (restS s top).1).1 ++ [47], true) := by rw [child_some h, cut_t h2]
theorem child_cut_f {s top : Bytes} (h : (restS s top).2 = true) (h2 : (cutS (restS s top).1).2.2 = false) : childS s top = ((restS s top).1, true) := by rw [child_some h, cut_f h2]
theorem common_yes {a b : Bytes} {k n : Nat} (hA : k ≤ a.length) (hB : k ≤ b.length) (hE : List.take k a = List.take k b) (hN : n ≤ k) (h0 : 0 < n) (h : (endsS a n && endsS b n) = true) : (withinS a (List.take n a) && withinS b (List.take n a)) = true := by
  have e : List.take n a = List.take n b := by
    have := congrArg (List.take n) hE
    rwa [List.take_take, List.take_take, Nat.min_eq_left hN] at this
  rw [← ends_within a n h0 (by omega), ← ends_within b n h0 (by omega), ← e] at h
  exact h
theorem common_no {a b : Bytes} {k n : Nat} (hA : k ≤ a.length) (hB : k ≤ b.length) (hE : List.take k a = List.take k b) (hN : n ≤ k) (h0 : 0 < n) (h : (endsS a n && endsS b n) = false) : (withinS a (List.take n a) && withinS b (List.take n a)) = false := by
  have e : List.take n a = List.take n b := by
    have := congrArg (List.take n) hE
    rwa [List.take_take, List.take_take, Nat.min_eq_left hN] at this
  rw [← ends_within a n h0 (by omega), ← ends_within b n h0 (by omega), ← e] at h
  exact h
theorem into_eq {l : List Bytes} {s : Bytes} (k : Nat) (hk : k ≤ l.length) (h1 : ∀ y ∈ List.take k l, Op.bytesLess y s = true) (h2 : k < l.length → Op.bytesLess (List.getD l k []) s = false) (h3 : k < l.length) (h4 : List.getD l k [] = s) : intoS l s = l := by
  rw [into_at k hk h1 h2, if_pos ⟨h3, h4⟩]
theorem into_ne {l : List Bytes} {s : Bytes} (k : Nat) (hk : k ≤ l.length) (h1 : ∀ y ∈ List.take k l, Op.bytesLess y s = true) (h2 : k < l.length → Op.bytesLess (List.getD l k []) s = false) (h3 : k < l.length → List.getD l k [] = s → False) : intoS l s = (List.take k l ++ [s]) ++ List.drop k l := by
  rw [into_at k hk h1 h2, if_neg (fun h => h3 h.1 h.2)]
theorem over_all {l m : List Bytes} (h : AL.Fnv.overS l ≤ 0) (hm : ∀ x ∈ m, x ∈ l) : ∀ x ∈ m, x.length ≤ 100000 := fun x hx => Nat.le_trans ((over_len h).2 x (hm x hx)) (by decide)
theorem order_1 {a : Bytes} (h : (withinS a a = false ∨ withinS a [] = false) ∨ belowS a a = true) : False := by
  rw [within_self, within_nil, below_self] at h
  rcases h with (h | h) | h <;> cases h
theorem order_2 {a b c : Bytes} (h : ((withinS a b = true ∧ withinS b a = true) ∧ ¬ a = b) ∨ ((withinS a b = true ∧ withinS b c = true) ∧ withinS a c = false)) : False := by
  rcases h with ⟨⟨h1, h2⟩, h3⟩ | ⟨⟨h1, h2⟩, h3⟩
  · exact h3 (within_anti h1 h2)
  · rw [within_trans h1 h2] at h3; cases h3
theorem meets_1 {a b : Bytes} (h : (((withinS a (commonS a b) = false ∨ withinS b (commonS a b) = false) ∨ ¬ commonS a b = commonS b a) ∨ ¬ commonS a a = a) ∨ ¬ commonS a [] = []) : False := by
  rw [common_a, common_b] at h
  rcases h with (((h | h) | h) | h) | h
  · cases h
  · cases h
  · exact h (common_comm a b)
  · exact h (common_self a)
  · exact h (common_nil a)
theorem meets_2 {a b c : Bytes} (h : (withinS a c = true ∧ withinS b c = true) ∧ withinS (commonS a b) c = false) : False := by
  rw [common_max h.1.1 h.1.2] at h
  cases h.2
theorem meets_3 (a : Bytes) : (decide (a = []) || belowS a (parentS a)) = true := by
  by_cases h : a = []
  · rw [decide_eq_true h]; rfl
  · rw [parent_below a h, Bool.or_true]
theorem grows_1 {top : Bytes} {l : List Bytes} (k i : Nat) (hi : i < (childrenS top l).length) (h1 : inS (childrenS top (List.take k l)) (List.getD (childrenS top l) i []) = false) (h2 : inS (childrenS top (List.drop k l)) (List.getD (childrenS top l) i []) = false) : False := by
  rcases children_half k (AL.Lib.getD_mem [] (childrenS top l) i hi) with h | h
  · rw [h1] at h; cases h
  · rw [h2] at h; cases h
theorem grows_2 {top : Bytes} {l : List Bytes} (i : Nat) (hi : i < l.length) (h1 : (childS (List.getD l i []) top).2 = true) (h2 : inS (childrenS top l) (childS (List.getD l i []) top).1 = false) : False := by
  rw [child_below] at h1
  rw [in_iff.2 (children_mem.2 ⟨_, AL.Lib.getD_mem [] l i hi, h1, rfl⟩)] at h2
  cases h2
theorem grows_3 {s top : Bytes} (h1 : (childS s top).2 = false) (h2 : ¬ (childS s top).1 = []) : False := by
  rw [child_below] at h1
  exact h2 (by rw [child_none h1])
end AL.Under
