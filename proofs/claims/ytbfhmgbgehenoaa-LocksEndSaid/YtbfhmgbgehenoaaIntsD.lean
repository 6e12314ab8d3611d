/- rows of ints: sorted, each once, by insertion. No condition. -/
import Derived.Test.YtbfhmgbgehenoaaALe
import Derived.Lib.SlicesCompact
namespace AL.Ints
open Go AL
set_option linter.unusedVariables false

def intoS : List Int → Int → List Int
  | [], s => [s]
  | y :: l, s => if y < s then y :: intoS l s else if y = s then y :: l else s :: y :: l
def sortS (l : List Int) : List Int := l.foldl intoS []
def Rise (l : List Int) : Prop := l.Pairwise (· < ·)
theorem lt_of_not {x y : Int} (h1 : ¬ x < y) (h2 : x ≠ y) : y < x := by omega
theorem into_mem {l : List Int} {s x : Int} : x ∈ intoS l s ↔ x = s ∨ x ∈ l := by
  induction l with
  | nil => simp [intoS]
  | cons y l ih =>
    unfold intoS
    split
    · simp only [List.mem_cons, ih]; grind
    · split <;> grind
theorem into_rise {l : List Int} {s : Int} (h : Rise l) : Rise (intoS l s) := by
  induction l with
  | nil => simp [intoS, Rise]
  | cons y l ih =>
    obtain ⟨h1, h2⟩ := List.pairwise_cons.1 h
    unfold intoS
    split
    · rename_i hb
      skip
      refine List.pairwise_cons.2 ⟨fun x hx => ?_, ih h2⟩
      rcases into_mem.1 hx with rfl | hx
      · exact hb
      · exact h1 x hx
    · rename_i hb
      skip
      split
      · exact h
      · rename_i he
        have hs := lt_of_not hb he
        refine List.pairwise_cons.2 ⟨fun x hx => ?_, h⟩
        rcases List.mem_cons.1 hx with rfl | hx
        · exact hs
        · exact Int.lt_trans hs (h1 x hx)
theorem fold_spec (l : List Int) : ∀ m, Rise m → Rise (l.foldl intoS m) ∧ ∀ x, x ∈ l.foldl intoS m ↔ x ∈ l ∨ x ∈ m := by
  induction l with
  | nil => intro m h; exact ⟨h, fun x => by simp⟩
  | cons y l ih =>
    intro m h
    obtain ⟨h1, h2⟩ := ih (intoS m y) (into_rise h)
    exact ⟨h1, fun x => by rw [List.foldl_cons, h2, into_mem]; simp only [List.mem_cons]; grind⟩
theorem sort_rise (l : List Int) : Rise (sortS l) := (fold_spec l [] List.Pairwise.nil).1
theorem sort_mem {l : List Int} {x : Int} : x ∈ sortS l ↔ x ∈ l := by
  have := (fold_spec l [] List.Pairwise.nil).2 x
  simp only [List.not_mem_nil, or_false] at this
  exact this
theorem rise_eq : ∀ {l m : List Int}, Rise l → Rise m → (∀ x, x ∈ l ↔ x ∈ m) → l = m := by
  intro l
  induction l with
  | nil =>
    intro m _ _ h
    cases m with
    | nil => rfl
    | cons y m => exact absurd ((h y).2 (by simp)) (by simp)
  | cons x l ih =>
    intro m hl hm h
    cases m with
    | nil => exact absurd ((h x).1 (by simp)) (by simp)
    | cons y m =>
      obtain ⟨h1, h2⟩ := List.pairwise_cons.1 hl
      obtain ⟨h3, h4⟩ := List.pairwise_cons.1 hm
      have e : x = y := by
        have hx := (h x).1 (by simp)
        have hy := (h y).2 (by simp)
        rcases List.mem_cons.1 hx with hx | hx
        · exact hx
        · rcases List.mem_cons.1 hy with hy | hy
          · exact hy.symm
          · exact absurd (Int.lt_trans (h1 y hy) (h3 x hx)) (Int.lt_irrefl x)
      subst e
      congr 1
      refine ih h2 h4 fun z => ?_
      constructor
      · intro hz
        rcases List.mem_cons.1 ((h z).1 (List.mem_cons_of_mem _ hz)) with e | e
        · subst e; exact absurd (h1 z hz) (Int.lt_irrefl z)
        · exact e
      · intro hz
        rcases List.mem_cons.1 ((h z).2 (List.mem_cons_of_mem _ hz)) with e | e
        · subst e; exact absurd (h3 z hz) (Int.lt_irrefl z)
        · exact e
theorem compact_go (d : Array Int) (hs : ∀ i j, i < j → j < d.size → d[i]! ≤ d[j]!) : ∀ m, m ≤ d.size →
    Rise (Go.Lib.compactUpTo d m) ∧ (∀ x ∈ Go.Lib.compactUpTo d m, ∃ j, j < m ∧ x = d[j]!) ∧ (∀ j, j < m → d[j]! ∈ Go.Lib.compactUpTo d m) := by
  intro m
  induction m with
  | zero => intro _; exact ⟨List.Pairwise.nil, fun x hx => by simp [Go.Lib.compactUpTo] at hx, fun j hj => by omega⟩
  | succ m ih =>
    intro hm
    obtain ⟨h1, h2, h3⟩ := ih (by omega)
    rw [Go.Lib.compactUpTo_succ]
    by_cases hk : Go.Lib.keeps d m = true
    · rw [if_pos hk]
      refine ⟨List.pairwise_append.2 ⟨h1, List.pairwise_singleton _ _, fun x hx y hy => ?_⟩, fun x hx => ?_, fun j hj => ?_⟩
      · rw [List.mem_singleton.1 hy]
        obtain ⟨j, hj, rfl⟩ := h2 x hx
        unfold Go.Lib.keeps at hk
        rw [decide_eq_true_eq] at hk
        have hne : d[m]! ≠ d[m - 1]! := hk.resolve_left (by omega)
        have l1 : d[m - 1]! ≤ d[m]! := hs _ _ (by omega) (by omega)
        have l2 : d[m - 1]! < d[m]! := by
          by_cases h : d[m - 1]! < d[m]!
          · exact h
          · exact absurd (Int.le_antisymm (Int.not_lt.1 h) l1) hne
        by_cases e : j = m - 1
        · rw [e]; exact l2
        · have l3 : d[j]! ≤ d[m - 1]! := hs _ _ (by omega) (by omega)
          by_cases h : d[j]! < d[m]!
          · exact h
          · have l4 := Int.le_antisymm l3 (Int.le_trans l1 (Int.not_lt.1 h))
            rw [l4]; exact l2
      · rcases List.mem_append.1 hx with hx | hx
        · obtain ⟨j, hj, e⟩ := h2 x hx; exact ⟨j, by omega, e⟩
        · exact ⟨m, by omega, List.mem_singleton.1 hx⟩
      · by_cases e : j = m
        · subst e; simp
        · exact List.mem_append_left _ (h3 j (by omega))
    · rw [if_neg hk, List.append_nil]
      refine ⟨h1, fun x hx => ?_, fun j hj => ?_⟩
      · obtain ⟨j, hj, e⟩ := h2 x hx; exact ⟨j, by omega, e⟩
      · by_cases e : j = m
        · subst e
          unfold Go.Lib.keeps at hk
          simp only [decide_eq_true_eq, not_or, Decidable.not_not] at hk
          rw [hk.2]; exact h3 (j - 1) (by omega)
        · exact h3 j (by omega)
theorem compact_sort (l : List Int) : Go.Lib.compact (l.mergeSort fun x y => decide (x ≤ y)) = sortS l := by
  have hp : (l.mergeSort fun x y => decide (x ≤ y)).Pairwise fun x y => decide (x ≤ y) = true := List.pairwise_mergeSort (fun a b c h1 h2 => by
    simp only [decide_eq_true_eq] at *; exact Int.le_trans h1 h2) (fun a b => by simp only [Bool.or_eq_true, decide_eq_true_eq]; exact Int.le_total ..) l
  have hm := List.mergeSort_perm l fun x y => decide (x ≤ y)
  generalize (l.mergeSort fun x y => decide (x ≤ y)) = z at hp hm
  have hs : ∀ i j, i < j → j < z.toArray.size → z.toArray[i]! ≤ z.toArray[j]! := by
    intro i j hij hj
    have hj' : j < z.length := by simpa using hj
    have := List.pairwise_iff_getElem.1 hp i j (by omega) hj' hij
    rw [decide_eq_true_eq] at this
    rw [getElem!_pos _ i (by simpa using Nat.lt_trans hij hj'), getElem!_pos _ j (by simpa using hj')]
    simpa using this
  obtain ⟨h1, h2, h3⟩ := compact_go z.toArray hs z.length (by simp)
  refine rise_eq h1 (sort_rise l) fun x => ?_
  rw [sort_mem, ← hm.mem_iff]
  constructor
  · intro hx
    obtain ⟨j, hj, rfl⟩ := h2 x hx
    rw [getElem!_pos _ j (by simpa using hj)]
    simp
  · intro hx
    obtain ⟨j, hj, rfl⟩ := List.mem_iff_getElem.1 hx
    have := h3 j hj
    rw [getElem!_pos _ j (by simpa using hj)] at this
    have e : z.toArray[j]'(by simpa using hj) = z[j] := by simp
    rw [e] at this
    exact this

end AL.Ints
