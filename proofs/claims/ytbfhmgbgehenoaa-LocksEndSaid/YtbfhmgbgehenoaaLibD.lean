/- library: what some of its functions compute, in plain Lean. No condition. -/
import Derived.Test.YtbfhmgbgehenoaaFnvD
import Derived.Test.YtbfhmgbgehenoaaALe
namespace AL.Lib
open Go AL
set_option linter.unusedVariables false
set_option linter.unusedSimpArgs false
variable {α : Type}

theorem getD_lt (d : α) (l : List α) (k : Nat) (h : k < l.length) : List.getD l k d = l[k] := by simp [List.getD, List.getElem?_eq_getElem h]
theorem getD_mem (d : α) (l : List α) (k : Nat) (h : k < l.length) : List.getD l k d ∈ l := by rw [getD_lt d l k h]; exact List.getElem_mem h
theorem take_succ (d : α) (l : List α) (k : Nat) (h : k < l.length) : List.take (k + 1) l = List.take k l ++ [List.getD l k d] := Fnv.take_succ d l k h
theorem drop_cons (d : α) (l : List α) (k : Nat) (h : k < l.length) : List.drop k l = List.getD l k d :: List.drop (k + 1) l := by
  rw [List.drop_eq_getElem_cons h, getD_lt d l k h]
theorem take_cons (d : α) (l : List α) (k : Nat) (h : k < l.length) : l = List.take k l ++ List.getD l k d :: List.drop (k + 1) l := by
  rw [← drop_cons d l k h, List.take_append_drop]

/-- The place of the first element that has the property; -1: none has. -/
def idxS (p : α → Bool) : List α → Int
  | [] => -1
  | x :: l => if p x then 0 else if idxS p l < 0 then -1 else idxS p l + 1
theorem idx_range (p : α → Bool) (l : List α) : -1 ≤ idxS p l ∧ idxS p l < l.length ∨ idxS p l = -1 := by
  induction l with
  | nil => right; rfl
  | cons x l ih =>
    unfold idxS
    split
    · left; simp
    · split
      · right; rfl
      · rw [List.length_cons]; left; omega
theorem idx_lt (p : α → Bool) (l : List α) : idxS p l < l.length := by
  rcases idx_range p l with h | h <;> omega
theorem idx_ge (p : α → Bool) (l : List α) : -1 ≤ idxS p l := by
  rcases idx_range p l with h | h <;> omega
theorem idx_none {p : α → Bool} {l : List α} (h : ∀ x ∈ l, p x = false) : idxS p l = -1 := by
  induction l with
  | nil => rfl
  | cons x l ih =>
    unfold idxS
    rw [if_neg (by simp [h x]), ih fun y hy => h y (List.mem_cons_of_mem _ hy)]
    rfl
theorem idx_app {p : α → Bool} {x : α} {m : List α} : ∀ {l : List α}, (∀ y ∈ l, p y = false) → p x = true → idxS p (l ++ x :: m) = l.length
  | [], _, hx => by simp [idxS, hx]
  | y :: l, h, hx => by
    rw [List.cons_append]
    unfold idxS
    rw [if_neg (by simp [h y]), idx_app (fun z hz => h z (List.mem_cons_of_mem _ hz)) hx]
    rw [if_neg (by omega)]
    simp
theorem idx_hit {p : α → Bool} (d : α) (l : List α) (k : Nat) (hk : k < l.length) (h : ∀ x ∈ List.take k l, p x = false) (hx : p (List.getD l k d) = true) : idxS p l = k := by
  have := idx_app (m := List.drop (k + 1) l) h hx
  rw [← take_cons d l k hk, List.length_take] at this
  rw [this]; congr 1; omega
theorem idx_neg {p : α → Bool} {l : List α} (h : idxS p l < 0) : ∀ x ∈ l, p x = false := by
  induction l with
  | nil => intro x hx; cases hx
  | cons y l ih =>
    unfold idxS at h
    split at h
    · omega
    · rename_i hy
      split at h
      · intro x hx
        rcases List.mem_cons.1 hx with rfl | hx
        · simpa using hy
        · exact ih (by omega) x hx
      · omega
theorem idx_pos {p : α → Bool} (d : α) {l : List α} (h : 0 ≤ idxS p l) : p (List.getD l (idxS p l).toNat d) = true ∧ ∀ x ∈ List.take (idxS p l).toNat l, p x = false := by
  induction l with
  | nil => simp [idxS] at h
  | cons y l ih =>
    unfold idxS at h ⊢
    split
    · rename_i hy; exact ⟨by simpa using hy, fun x hx => by simp at hx⟩
    · rename_i hy
      rw [if_neg hy] at h
      split
      · rename_i hn; rw [if_pos hn] at h; omega
      · rename_i hn
        obtain ⟨h1, h2⟩ := ih (by omega)
        have e : (idxS p l + 1).toNat = (idxS p l).toNat + 1 := by omega
        rw [e]
        refine ⟨by simpa using h1, fun x hx => ?_⟩
        rw [List.take_succ_cons] at hx
        rcases List.mem_cons.1 hx with rfl | hx
        · simpa using hy
        · exact h2 x hx
theorem all_step {p : α → Bool} (d : α) (l : List α) (k : Nat) (hk : k < l.length) (h : ∀ x ∈ List.take k l, p x = false) (hx : p (List.getD l k d) = false) : ∀ x ∈ List.take (k + 1) l, p x = false := by
  intro x hm
  rw [take_succ d l k hk] at hm
  rcases List.mem_append.1 hm with h1 | h1
  · exact h x h1
  · rw [List.mem_singleton.1 h1]; exact hx

/-! ### Two lists compared, one by one -/
theorem same_step (d : α) (a b : List α) (k : Nat) (ha : k < a.length) (hb : k < b.length) (h : List.take k a = List.take k b) (hx : List.getD a k d = List.getD b k d) : List.take (k + 1) a = List.take (k + 1) b := by
  rw [take_succ d a k ha, take_succ d b k hb, h, hx]
theorem same_end (a b : List α) (k : Nat) (hl : a.length = b.length) (hk : a.length ≤ k) (h : List.take k a = List.take k b) : a = b := by
  rwa [List.take_of_length_le hk, List.take_of_length_le (by omega)] at h
theorem not_same (d : α) (a b : List α) (k : Nat) (hx : List.getD a k d ≠ List.getD b k d) : a ≠ b := fun h => hx (by rw [h])

/-! ### Lists joined -/
theorem flat_step (d : List α) (ls : List (List α)) (k : Nat) (hk : k < ls.length) : (List.take k ls).flatten ++ List.getD ls k d = (List.take (k + 1) ls).flatten := by
  rw [take_succ d ls k hk]; simp
theorem flat_len (ls : List (List α)) (k : Nat) (hk : k < ls.length) : (List.take (k + 1) ls).flatten.length = (List.take k ls).flatten.length + (List.getD ls k []).length := by
  rw [← flat_step [] ls k hk, List.length_append]
theorem flat_le (ls : List (List α)) (k : Nat) : (List.take k ls).flatten.length ≤ ls.flatten.length := by
  conv => rhs; rw [← List.take_append_drop k ls]
  rw [List.flatten_append, List.length_append]; omega
theorem flat_all (ls : List (List α)) (k : Nat) (h : ls.length ≤ k) : (List.take k ls).flatten = ls.flatten := by rw [List.take_of_length_le h]

/-! ### A search by halves -/
theorem half {i j : Nat} (h : i + j < 9223372036854775808) : Int.fdiv (IntKind.wrap .u64 ((i : Int) + (j : Int))) (2 ^ (min (1 : Int).toNat (IntKind.bits .u64))) = (((i + j) / 2 : Nat) : Int) := by
  rw [show (2 : Int) ^ (min (1 : Int).toNat (IntKind.bits .u64)) = ((2 : Nat) : Int) by decide +kernel]
  have h1 : IntKind.wrap .u64 ((i : Int) + (j : Int)) = ((i + j : Nat) : Int) := by
    simp [IntKind.wrap, IntKind.signed, IntKind.bits]; omega
  rw [h1, Int.fdiv_eq_ediv_of_nonneg _ (by omega)]
  rfl
/-- How many stand ahead of the first that has not the property. -/
def leadS (p : α → Bool) (l : List α) : Nat := (l.takeWhile p).length
theorem lead_eq {p : α → Bool} (l : List α) (k : Nat) (hk : k ≤ l.length) (h1 : ∀ x ∈ List.take k l, p x = true) (h2 : ∀ x ∈ List.drop k l, p x = false) : leadS p l = k := by
  unfold leadS
  induction l generalizing k with
  | nil => simp at hk ⊢; omega
  | cons y l ih =>
    cases k with
    | zero => rw [List.takeWhile_cons, if_neg (by simp [h2 y])]; rfl
    | succ k =>
      rw [List.takeWhile_cons, if_pos (h1 y (by simp)), List.length_cons, ih k (by simpa using hk) (fun x hx => h1 x (by simp [hx])) (fun x hx => h2 x (by simpa using hx))]
theorem takeWhile_all {p : α → Bool} {x : α} : ∀ {l : List α}, x ∈ l.takeWhile p → p x = true
  | [], h => by cases h
  | y :: l, h => by
    rw [List.takeWhile_cons] at h
    split at h
    · rcases List.mem_cons.1 h with e | h
      · rw [e]; assumption
      · exact takeWhile_all h
    · cases h
theorem lead_le (p : α → Bool) (l : List α) : leadS p l ≤ l.length := (List.takeWhile_prefix p).length_le

/-- The elements that have the property stand ahead of those that have not. -/
def Ahead (p : α → Bool) (l : List α) : Prop := l.Pairwise fun x y => p y = true → p x = true
theorem ahead_lo {p : α → Bool} (d : α) {l : List α} (ha : Ahead p l) (k : Nat) (hk : k < l.length) (h : p (List.getD l k d) = true) : ∀ x ∈ List.take (k + 1) l, p x = true := by
  intro x hx
  rw [take_succ d l k hk] at hx
  rcases List.mem_append.1 hx with hx | hx
  · unfold Ahead at ha
    rw [take_cons d l k hk] at ha
    exact (List.pairwise_append.1 ha).2.2 x hx _ (List.mem_cons_self ..) h
  · rw [List.mem_singleton.1 hx]; exact h
theorem ahead_hi {p : α → Bool} (d : α) {l : List α} (ha : Ahead p l) (k : Nat) (hk : k < l.length) (h : p (List.getD l k d) = false) : ∀ x ∈ List.drop k l, p x = false := by
  intro x hx
  rw [drop_cons d l k hk] at hx
  rcases List.mem_cons.1 hx with rfl | hx
  · exact h
  · unfold Ahead at ha
    rw [take_cons d l k hk] at ha
    have := (List.pairwise_cons.1 (List.pairwise_append.1 ha).2.1).1 x hx
    cases hp : p x with
    | false => rfl
    | true => rw [this hp] at h; cases h
end AL.Lib
