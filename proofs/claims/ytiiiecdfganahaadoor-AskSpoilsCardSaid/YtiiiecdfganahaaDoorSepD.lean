/- texts in pieces between bytes of one kind: plain Lean. No condition. -/
import Derived.Test.YtiiiecdfganahaaDoorLibD
import Derived.Test.YtiiiecdfganahaaDoorALc
import Derived.Lib.MapLaws
import Derived.Lib.Bytealg
namespace AL.Sep
open Go AL
set_option linter.unusedVariables false

/-! ### pieces -/
def splitC (c : UInt8) : Bytes → List Bytes
  | [] => [[]]
  | b :: s => if b = c then [] :: splitC c s else match splitC c s with
    | [] => [[b]]
    | p :: ps => (b :: p) :: ps
def joinC (c : UInt8) : List Bytes → Bytes
  | [] => []
  | [p] => p
  | p :: q :: l => p ++ c :: joinC c (q :: l)
theorem split_ne (c : UInt8) (s : Bytes) : splitC c s ≠ [] := by
  cases s with
  | nil => simp [splitC]
  | cons b s =>
    unfold splitC
    split
    · simp
    · split <;> simp
theorem split_none {c : UInt8} : ∀ {a : Bytes}, c ∉ a → splitC c a = [a]
  | [], _ => rfl
  | b :: a, h => by
    simp only [List.mem_cons, not_or] at h
    unfold splitC
    rw [if_neg (fun e => h.1 e.symm), split_none h.2]
theorem split_app {c : UInt8} : ∀ {a : Bytes} (s : Bytes), c ∉ a → splitC c (a ++ c :: s) = a :: splitC c s
  | [], s, _ => by simp [splitC]
  | b :: a, s, h => by
    simp only [List.mem_cons, not_or] at h
    rw [List.cons_append, splitC, if_neg (fun e => h.1 e.symm), split_app s h.2]
theorem split_len (c : UInt8) (s : Bytes) : (splitC c s).length = s.count c + 1 := by
  induction s with
  | nil => rfl
  | cons b s ih =>
    unfold splitC
    by_cases e : b = c
    · rw [e, if_pos rfl, List.length_cons, ih, List.count_cons_self]
    · rw [if_neg e, List.count_cons_of_ne e]
      cases hp : splitC c s with
      | nil => exact absurd hp (split_ne c s)
      | cons p ps => rw [hp] at ih; simpa using ih
theorem split_mem {c : UInt8} {s p : Bytes} (h : p ∈ splitC c s) : c ∉ p := by
  induction s generalizing p with
  | nil => rw [List.mem_singleton.1 (show p ∈ [[]] from h)]; simp
  | cons b s ih =>
    unfold splitC at h
    split at h
    · rcases List.mem_cons.1 h with rfl | h
      · simp
      · exact ih h
    · rename_i hb
      split at h
      · rename_i hp; exact absurd hp (split_ne c s)
      · rename_i q qs hp
        rcases List.mem_cons.1 h with rfl | h
        · have := ih (p := q) (by rw [hp]; simp)
          simp only [List.mem_cons, not_or]
          exact ⟨fun e => hb e.symm, this⟩
        · exact ih (by rw [hp]; exact List.mem_cons_of_mem _ h)
theorem join_split (c : UInt8) (s : Bytes) : joinC c (splitC c s) = s := by
  induction s with
  | nil => rfl
  | cons b s ih =>
    unfold splitC
    split
    · rename_i e
      rw [e]
      cases hp : splitC c s with
      | nil => exact absurd hp (split_ne c s)
      | cons p ps => rw [hp] at ih; show [] ++ c :: joinC c (p :: ps) = _; rw [ih]; rfl
    · split
      · rename_i hp; exact absurd hp (split_ne c s)
      · rename_i p ps hp
        rw [hp] at ih
        cases ps with
        | nil => show b :: p = _; rw [show p = s from ih]
        | cons q ps => show (b :: p) ++ c :: joinC c (q :: ps) = _; rw [← ih]; rfl
theorem split_join {c : UInt8} : ∀ {l : List Bytes}, (∀ p ∈ l, c ∉ p) → l ≠ [] → splitC c (joinC c l) = l
  | [], _, h => absurd rfl h
  | [p], h, _ => split_none (h p (by simp))
  | p :: q :: l, h, _ => by
    show splitC c (p ++ c :: joinC c (q :: l)) = _
    rw [split_app _ (h p (by simp)), split_join (fun x hx => h x (List.mem_cons_of_mem _ hx)) (by simp)]
theorem split_one {c : UInt8} {s : Bytes} : (splitC c s).length = 1 ↔ c ∉ s := by
  rw [split_len, ← List.count_eq_zero]; omega
theorem index_none {c : UInt8} {s : Bytes} (h : Go.Lib.indexByte s c < 0) : c ∉ s := by
  induction s with
  | nil => simp
  | cons b s ih =>
    unfold Go.Lib.indexByte at h
    split at h
    · omega
    · rename_i hb
      have hg := Go.Lib.indexByte_ge s c
      simp only [List.mem_cons, not_or]
      refine ⟨fun e => hb (by simp [e]), ih ?_⟩
      split at h
      · rename_i h1; simp only [beq_iff_eq] at h1; omega
      · omega
theorem index_some {c : UInt8} {s : Bytes} (h : 0 ≤ Go.Lib.indexByte s c) : (Go.Lib.indexByte s c).toNat < s.length ∧ c ∉ List.take (Go.Lib.indexByte s c).toNat s ∧ s = List.take (Go.Lib.indexByte s c).toNat s ++ c :: List.drop ((Go.Lib.indexByte s c).toNat + 1) s := by
  induction s with
  | nil => simp [Go.Lib.indexByte] at h
  | cons b s ih =>
    unfold Go.Lib.indexByte at h ⊢
    by_cases hb : b = c
    · rw [hb]; simp
    · have e1 : (b == c) = false := by simpa using hb
      rw [e1] at h ⊢
      simp only [Bool.false_eq_true, if_false] at h ⊢
      have hg := Go.Lib.indexByte_ge s c
      by_cases h1 : Go.Lib.indexByte s c = -1
      · rw [h1] at h; simp at h
      · rw [if_neg (by simpa using h1)] at h ⊢
        obtain ⟨i1, i2, i3⟩ := ih (by omega)
        have e : (Go.Lib.indexByte s c + 1).toNat = (Go.Lib.indexByte s c).toNat + 1 := by omega
        rw [e]
        refine ⟨by simp only [List.length_cons]; omega, ?_, ?_⟩
        · simp only [List.take_succ_cons, List.mem_cons, not_or]; exact ⟨fun q => hb q.symm, i2⟩
        · simp only [List.take_succ_cons, List.drop_succ_cons, List.cons_append]
          rw [← i3]

/-! ### a text in pieces, from the front -/
theorem index_cut {c : UInt8} {s : Bytes} (h : 0 ≤ Go.Lib.indexByte s c) : splitC c s = List.take (Go.Lib.indexByte s c).toNat s :: splitC c (List.drop ((Go.Lib.indexByte s c).toNat + 1) s) := by
  obtain ⟨_, h2, h3⟩ := index_some h
  conv => lhs; rw [h3]
  exact split_app _ h2
theorem index_cut0 {c : UInt8} {s : Bytes} (h : Go.Lib.indexByte s c < 0) : splitC c s = [s] := split_none (index_none h)
theorem index_rng (c : UInt8) (s : Bytes) : -1 ≤ Go.Lib.indexByte s c ∧ Go.Lib.indexByte s c < (s.length : Int) := by
  refine ⟨Go.Lib.indexByte_ge s c, ?_⟩
  by_cases h : 0 ≤ Go.Lib.indexByte s c
  · have := (index_some h).1; omega
  · omega
/-- What is left of a text, when so many pieces are cut off it. -/
def restC (c : UInt8) (s : Bytes) (i : Nat) : Bytes := joinC c (List.drop i (splitC c s))
theorem rest_0 (c : UInt8) (s : Bytes) : restC c s 0 = s := by unfold restC; rw [List.drop_zero, join_split]
theorem rest_split {c : UInt8} {s : Bytes} {i : Nat} (h : i < (splitC c s).length) : splitC c (restC c s i) = List.drop i (splitC c s) := by
  unfold restC
  refine split_join (fun p hp => split_mem (List.mem_of_mem_drop hp)) ?_
  intro e
  have := congrArg List.length e
  rw [List.length_drop] at this
  simp at this
  omega
theorem rest_step {c : UInt8} {s : Bytes} {i : Nat} (h : i + 1 < (splitC c s).length) : 0 ≤ Go.Lib.indexByte (restC c s i) c ∧ List.take (Go.Lib.indexByte (restC c s i) c).toNat (restC c s i) = List.getD (splitC c s) i [] ∧ List.drop ((Go.Lib.indexByte (restC c s i) c).toNat + 1) (restC c s i) = restC c s (i + 1) := by
  have h1 := rest_split (c := c) (s := s) (i := i) (by omega)
  have h0 : 0 ≤ Go.Lib.indexByte (restC c s i) c := by
    apply Classical.byContradiction
    intro hn
    rw [index_cut0 (by omega)] at h1
    have := congrArg List.length h1
    rw [List.length_drop] at this
    simp at this
    omega
  have h2 := index_cut h0
  rw [h1, Lib.drop_cons [] _ i (by omega)] at h2
  injection h2 with h3 h4
  refine ⟨h0, h3.symm, ?_⟩
  have h5 := congrArg (joinC c) h4
  rw [join_split] at h5
  exact h5.symm
theorem rest_last {c : UInt8} {s : Bytes} {i : Nat} (h : i + 1 = (splitC c s).length) : restC c s i = List.getD (splitC c s) i [] := by
  unfold restC
  rw [Lib.drop_cons [] _ i (by omega), List.drop_of_length_le (by omega)]
  rfl
theorem rest_len (c : UInt8) (s : Bytes) (i : Nat) : (restC c s i).length ≤ s.length := by
  have key : ∀ (l : List Bytes) (i : Nat), (joinC c (List.drop i l)).length ≤ (joinC c l).length := by
    intro l
    induction l with
    | nil => intro i; simp
    | cons p l ih =>
      intro i
      cases i with
      | zero => rw [List.drop_zero]; exact Nat.le_refl _
      | succ i =>
        rw [List.drop_succ_cons]
        refine Nat.le_trans (ih i) ?_
        cases l with
        | nil => exact Nat.zero_le _
        | cons q l => show _ ≤ (p ++ c :: joinC c (q :: l)).length; simp only [List.length_append, List.length_cons]; omega
  have := key (splitC c s) i
  rw [join_split] at this
  exact this
theorem mem_len {c : UInt8} {s p : Bytes} (h : p ∈ splitC c s) : p.length ≤ s.length := by
  have key : ∀ (l : List Bytes), p ∈ l → p.length ≤ (joinC c l).length := by
    intro l
    induction l with
    | nil => intro h; cases h
    | cons q l ih =>
      intro h
      cases l with
      | nil => rw [List.mem_singleton.1 h]; exact Nat.le_refl _
      | cons r l =>
        show _ ≤ (q ++ c :: joinC c (r :: l)).length
        simp only [List.length_append, List.length_cons]
        rcases List.mem_cons.1 h with rfl | h
        · omega
        · have := ih h; omega
  have := key _ h
  rwa [join_split] at this
/-- The slots of the pieces: those that are told, and the empty ones behind. -/
theorem fill_set {α : Type} (d : α) (l : List α) (i : Nat) (h : i < l.length) : List.set (List.take i l ++ List.replicate (l.length - i) d) i (List.getD l i d) = List.take (i + 1) l ++ List.replicate (l.length - (i + 1)) d := by
  rw [Lib.take_succ d l i h, List.append_assoc, List.set_append_right _ _ (by rw [List.length_take]; omega), List.length_take, show i - min i l.length = 0 by omega, show l.length - i = (l.length - (i + 1)) + 1 by omega, List.replicate_succ]
  rfl
theorem fill_end {α : Type} (d : α) (l : List α) (i : Nat) (h : i = l.length) : List.take i l ++ List.replicate (l.length - i) d = l := by
  subst h; rw [List.take_length, Nat.sub_self]; simp

/-! ### a text in pieces, byte by byte -/
theorem split_hit {c : UInt8} {s : Bytes} {j i : Nat} (h : j ≤ i) (hi : i < s.length) (hc : List.getD s i 0 = c) (hn : c ∉ List.drop j (List.take i s)) : splitC c (List.drop j s) = List.drop j (List.take i s) :: splitC c (List.drop (i + 1) s) := by
  have e : List.drop j s = List.drop j (List.take i s) ++ c :: List.drop (i + 1) s := by
    conv => lhs; rw [Lib.take_cons 0 s i hi, hc]
    rw [List.drop_append, List.length_take, show j - min i s.length = 0 by omega, List.drop_zero]
  rw [e]; exact split_app _ hn
theorem split_last {c : UInt8} {s : Bytes} {j : Nat} (hn : c ∉ List.drop j s) : splitC c (List.drop j s) = [List.drop j s] := split_none hn
theorem none_step {c : UInt8} {s : Bytes} {j i : Nat} (h : j ≤ i) (hi : i < s.length) (hc : ¬ List.getD s i 0 = c) (hn : c ∉ List.drop j (List.take i s)) : c ∉ List.drop j (List.take (i + 1) s) := by
  rw [Lib.take_succ 0 s i hi, List.drop_append, List.length_take, show j - min i s.length = 0 by omega, List.drop_zero]
  intro hm
  rcases List.mem_append.1 hm with hm | hm
  · exact hn hm
  · exact hc (List.mem_singleton.1 hm).symm
theorem join_len_le {c : UInt8} {p : Bytes} {l : List Bytes} (h : p ∈ l) : p.length ≤ (joinC c l).length := by
  induction l with
  | nil => cases h
  | cons q l ih =>
    cases l with
    | nil => rw [List.mem_singleton.1 h]; exact Nat.le_refl _
    | cons r l =>
      show _ ≤ (q ++ c :: joinC c (r :: l)).length
      simp only [List.length_append, List.length_cons]
      rcases List.mem_cons.1 h with rfl | h
      · omega
      · have := ih h; omega
theorem join_count (c : UInt8) : ∀ (l : List Bytes), l.length ≤ (joinC c l).length + 1
  | [] => by simp
  | [p] => by simp
  | p :: q :: l => by
    have ih := join_count c (q :: l)
    show (p :: q :: l).length ≤ (p ++ c :: joinC c (q :: l)).length + 1
    simp only [List.length_cons, List.length_append] at ih ⊢
    omega
theorem join_max {c : UInt8} {n : Nat} : ∀ (l : List Bytes), (∀ p ∈ l, p.length ≤ n) → (joinC c l).length ≤ l.length * (n + 1)
  | [], _ => by simp [joinC]
  | [p], h => by have := h p (by simp); simp [joinC]; omega
  | p :: q :: l, h => by
    have ih := join_max (c := c) (q :: l) (fun x hx => h x (List.mem_cons_of_mem _ hx))
    have := h p (by simp)
    show (p ++ c :: joinC c (q :: l)).length ≤ _
    simp only [List.length_cons, List.length_append] at ih ⊢
    rw [Nat.add_mul (l.length + 1) 1]
    omega
theorem join_snoc (c : UInt8) (p : Bytes) : ∀ (l : List Bytes), l ≠ [] → joinC c (l ++ [p]) = joinC c l ++ c :: p
  | [], h => absurd rfl h
  | [q], _ => rfl
  | q :: r :: l, _ => by
    show q ++ c :: joinC c ((r :: l) ++ [p]) = (q ++ c :: joinC c (r :: l)) ++ c :: p
    rw [join_snoc c p (r :: l) (by simp)]
    simp
theorem join_inj {c : UInt8} {a b : List Bytes} (ha : ∀ p ∈ a, c ∉ p) (hb : ∀ p ∈ b, c ∉ p) (na : a ≠ []) (nb : b ≠ []) (h : joinC c a = joinC c b) : a = b := by
  rw [← split_join ha na, h, split_join hb nb]

/-! ### a text cut at the first such byte -/
def cutAt (c : UInt8) (s : Bytes) : Bytes × Bytes × Bool := if 0 ≤ Go.Lib.indexByte s c then (List.take (Go.Lib.indexByte s c).toNat s, List.drop ((Go.Lib.indexByte s c).toNat + 1) s, true) else (s, [], false)
theorem cut_none {c : UInt8} {s : Bytes} (h : c ∉ s) : cutAt c s = (s, [], false) := by
  unfold cutAt
  refine if_neg fun h0 => h ?_
  have := (index_some h0).2.2
  rw [this]; simp
theorem cut_app {c : UInt8} {p r : Bytes} (h : c ∉ p) : cutAt c (p ++ c :: r) = (p, r, true) := by
  unfold cutAt
  have h0 : 0 ≤ Go.Lib.indexByte (p ++ c :: r) c := by
    apply Classical.byContradiction
    intro hn
    exact index_none (c := c) (s := p ++ c :: r) (by omega) (by simp)
  obtain ⟨_, h2, h3⟩ := index_some h0
  rw [if_pos h0]
  have key : ∀ (a b x y : Bytes), c ∉ a → c ∉ b → a ++ c :: x = b ++ c :: y → a = b ∧ x = y := by
    intro a
    induction a with
    | nil =>
      intro b x y _ hb e
      cases b with
      | nil => exact ⟨rfl, by injection e⟩
      | cons u b => injection e with e1 e2; exact absurd (by rw [e1]; simp) hb
    | cons u a ih =>
      intro b x y ha hb e
      cases b with
      | nil => injection e with e1 e2; exact absurd (by rw [e1]; simp) ha
      | cons v b =>
        injection e with e1 e2
        simp only [List.mem_cons, not_or] at ha hb
        obtain ⟨r1, r2⟩ := ih b x y ha.2 hb.2 e2
        exact ⟨by rw [e1, r1], r2⟩
  obtain ⟨k1, k2⟩ := key _ _ _ _ h h2 h3
  rw [← k1, ← k2]
theorem cut_some {c : UInt8} {s : Bytes} (h : (cutAt c s).2.2 = true) : s = (cutAt c s).1 ++ c :: (cutAt c s).2.1 ∧ c ∉ (cutAt c s).1 := by
  unfold cutAt at *
  split at h
  · rename_i h0
    rw [if_pos h0]
    obtain ⟨_, h2, h3⟩ := index_some h0
    exact ⟨h3, h2⟩
  · cases h
theorem cut_len (c : UInt8) (s : Bytes) : (cutAt c s).1.length ≤ s.length ∧ (cutAt c s).2.1.length ≤ s.length := by
  unfold cutAt
  split
  · simp only [List.length_take, List.length_drop]; omega
  · simp

/-! ### the slots of the pieces, filled one by one -/
theorem gen_n (k : UInt8) (s : Bytes) : (min (((s.count k : Nat) : Int) + 1) ((List.length s : Int) + 1)).toNat = (splitC k s).length := by
  have h1 := split_len k s
  have h2 : s.count k ≤ s.length := List.count_le_length
  omega
theorem gen_more {k : UInt8} {c : Bytes} (h : 0 ≤ Go.Lib.indexByte c k) : splitC k c = List.take (Go.Lib.indexByte c k).toNat c :: splitC k (List.drop ((Go.Lib.indexByte c k).toNat + 1) c) := by
  obtain ⟨h1, h2, h3⟩ := index_some h
  conv => lhs; rw [h3]
  rw [split_app _ h2]
theorem set_rep (o : List Bytes) (n : Nat) (x : Bytes) : List.set (o ++ List.replicate (n + 1) []) o.length x = (o ++ [x]) ++ List.replicate n [] := by
  rw [List.set_append_right _ _ (Nat.le_refl _), Nat.sub_self, List.replicate_succ, List.set_cons_zero, List.append_assoc]; rfl
theorem gen_step {k : UInt8} {o : List Bytes} {c : Bytes} (h : 0 ≤ Go.Lib.indexByte c k) (x : Bytes) :
    List.set (o ++ List.replicate (splitC k c).length []) o.length x = (o ++ [x]) ++ List.replicate (splitC k (List.drop ((Go.Lib.indexByte c k).toNat + 1) c)).length [] := by
  rw [gen_more h, List.length_cons, set_rep]
theorem gen_inv {k : UInt8} {s c : Bytes} {o : List Bytes} (hP : splitC k s = o ++ splitC k c) (h : 0 ≤ Go.Lib.indexByte c k) : splitC k s = (o ++ [List.take (Go.Lib.indexByte c k).toNat c]) ++ splitC k (List.drop ((Go.Lib.indexByte c k).toNat + 1) c) := by
  rw [hP, gen_more h, List.append_assoc]; rfl
theorem gen_last {k : UInt8} {s c : Bytes} {o : List Bytes} (hP : splitC k s = o ++ splitC k c) (h : ¬ (o.length : Int) < ((splitC k s).length : Int) - 1) : k ∉ c := by
  have := congrArg List.length hP
  rw [List.length_append] at this
  have h1 := split_len k c
  exact split_one.1 (by omega)
theorem gen_end {k : UInt8} {s c : Bytes} {o : List Bytes} (hP : splitC k s = o ++ splitC k c) (hc : k ∉ c) : List.take (o.length + 1) (List.set (o ++ List.replicate (splitC k c).length []) o.length c) = splitC k s := by
  rw [hP, split_none hc]
  show List.take (o.length + 1) (List.set (o ++ List.replicate (0 + 1) []) o.length c) = _
  rw [set_rep]
  rw [List.replicate_zero, List.append_nil, List.take_of_length_le (by simp)]
theorem gen_le {k : UInt8} {s c : Bytes} {o : List Bytes} (hP : splitC k s = o ++ splitC k c) : o.length + (splitC k c).length = (splitC k s).length ∧ (splitC k s).length ≤ s.length + 1 ∧ 1 ≤ (splitC k c).length := by
  have h0 := congrArg List.length hP
  have h1 := split_len k s
  have h2 : s.count k ≤ s.length := List.count_le_length
  have h3 := split_len k c
  rw [List.length_append] at h0
  omega

/-! ### pieces, met byte by byte -/
def SInv (k : UInt8) (s : Bytes) (i f : Nat) (o : List Bytes) : Prop :=
  (i ≤ s.length ∧ f ≤ i ∧ k ∉ List.drop f (List.take i s) ∧ splitC k s = o ++ splitC k (List.drop f s)) ∨ (i = s.length + 1 ∧ f = i ∧ splitC k s = o)
theorem sinv_0 (k : UInt8) (s : Bytes) : SInv k s 0 0 [] := .inl ⟨Nat.zero_le _, Nat.le_refl _, by simp, by simp⟩
theorem sinv_len {k : UInt8} {s : Bytes} {i f : Nat} {o : List Bytes} (h : SInv k s i f o) : o.length ≤ s.length + 1 ∧ f ≤ i ∧ i ≤ s.length + 1 := by
  have h1 := split_len k s
  have h2 : s.count k ≤ s.length := List.count_le_length
  rcases h with ⟨a, b, c, d⟩ | ⟨a, b, d⟩
  · have := congrArg List.length d
    rw [List.length_append] at this; omega
  · have := congrArg List.length d; omega
theorem seg_split {s : Bytes} {i f : Nat} (hi : i < s.length) (hf : f ≤ i) : List.drop f s = List.drop f (List.take i s) ++ List.getD s i 0 :: List.drop (i + 1) s := by
  conv => lhs; rw [show s = List.take i s ++ List.drop i s from (List.take_append_drop i s).symm]
  rw [List.drop_append_of_le_length (by rw [List.length_take]; omega), AL.Lib.drop_cons 0 s i hi]
theorem sinv_hit {k : UInt8} {s : Bytes} {i f : Nat} {o : List Bytes} (h : SInv k s i f o) (hi : i ≤ s.length) (hc : i = s.length ∨ List.getD s i 0 = k) : SInv k s (i + 1) (i + 1) (o ++ [List.drop f (List.take i s)]) := by
  rcases h with ⟨a, b, c, d⟩ | ⟨a, b, d⟩
  · by_cases e : i = s.length
    · right
      refine ⟨by omega, rfl, ?_⟩
      rw [d]
      have : List.drop f (List.take i s) = List.drop f s := by rw [List.take_of_length_le (by omega)]
      rw [this] at c ⊢
      rw [split_none c]
    · left
      have hl : i < s.length := by omega
      have hk : List.getD s i 0 = k := hc.resolve_left e
      refine ⟨by omega, Nat.le_refl _, by rw [List.drop_of_length_le (by rw [List.length_take]; omega)]; simp, ?_⟩
      rw [d, seg_split hl b, hk, split_app _ c, List.append_assoc]; rfl
  · omega
theorem sinv_not {k : UInt8} {s : Bytes} {i f : Nat} {o : List Bytes} (h : SInv k s i f o) (hi : i ≤ s.length) (hc : ¬ (i = s.length ∨ List.getD s i 0 = k)) : SInv k s (i + 1) f o := by
  rcases h with ⟨a, b, c, d⟩ | ⟨a, b, d⟩
  · have hl : i < s.length := by omega
    refine .inl ⟨by omega, by omega, ?_, d⟩
    rw [AL.Lib.take_succ 0 s i hl, List.drop_append_of_le_length (by rw [List.length_take]; omega), List.mem_append, not_or]
    refine ⟨c, fun q => hc (.inr ?_)⟩
    exact (List.mem_singleton.1 q).symm
  · omega
theorem sinv_end {k : UInt8} {s : Bytes} {i f : Nat} {o : List Bytes} (h : SInv k s i f o) (hi : s.length < i) : splitC k s = o := by
  rcases h with ⟨a, b, c, d⟩ | ⟨a, b, d⟩
  · omega
  · exact d
end AL.Sep
