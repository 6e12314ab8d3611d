/- locks: more of what its functions compute; the library's Sort and Compact at ints by the kit's contracts. No condition. -/
import Derived.Test.YtbfhmgbgehenoaaLocksD
import Derived.Test.YtbfhmgbgehenoaaIntsD
import Derived.Test.YtbfhmgbgehenoaaALe
import Derived.Test.YtbfhmgbgehenoaaShelf
namespace AL.Locks
open Go Go.Proofs AL AL.Gate
set_option linter.unusedVariables false
set_option linter.unusedSimpArgs false

theorem held_spec (t : Tab) (w : Int) : ∀ k, (∀ x ∈ heldS t w k, ∃ i, i < k ∧ x = (i : Int) ∧ ¬ modeS (List.getD t i ([], [])).1 w = 0) ∧ (∀ i, i < k → ¬ modeS (List.getD t i ([], [])).1 w = 0 → (i : Int) ∈ heldS t w k) ∧
    (∀ x ∈ heldS t w k, x ≤ List.getD (heldS t w k) ((List.length (heldS t w k) : Int) - 1).toNat 0) := by
  intro k
  induction k with
  | zero => exact ⟨fun x hx => by simp [heldS] at hx, fun i hi => by omega, fun x hx => by simp [heldS] at hx⟩
  | succ k ih =>
    obtain ⟨h1, h2, h3⟩ := ih
    by_cases hm : modeS (List.getD t k ([], [])).1 w = 0
    · rw [held_f t w k hm]
      refine ⟨fun x hx => ?_, fun i hi h => ?_, h3⟩
      · obtain ⟨i, a, b, c⟩ := h1 x hx; exact ⟨i, by omega, b, c⟩
      · by_cases e : i = k
        · subst e; exact absurd hm h
        · exact h2 i (by omega) h
    · rw [held_t t w k hm]
      refine ⟨fun x hx => ?_, fun i hi h => ?_, fun x hx => ?_⟩
      · rcases List.mem_append.1 hx with hx | hx
        · obtain ⟨i, a, b, c⟩ := h1 x hx; exact ⟨i, by omega, b, c⟩
        · exact ⟨k, by omega, List.mem_singleton.1 hx, hm⟩
      · by_cases e : i = k
        · subst e; simp
        · exact List.mem_append_left _ (h2 i (by omega) h)
      · have e : List.getD (heldS t w k ++ [(k : Int)]) ((List.length (heldS t w k ++ [(k : Int)]) : Int) - 1).toNat 0 = (k : Int) := by
          rw [List.length_append, List.length_singleton, show (((heldS t w k).length + 1 : Nat) : Int) - 1 = ((heldS t w k).length : Int) by omega, Int.toNat_natCast, List.getD_eq_getElem?_getD, List.getElem?_append_right (Nat.le_refl _)]
          simp
        rw [e]
        rcases List.mem_append.1 hx with hx | hx
        · obtain ⟨i, a, b, c⟩ := h1 x hx; omega
        · rw [List.mem_singleton.1 hx]; exact Int.le_refl _
theorem late_iff (t : Tab) (w lock : Int) : lateS t w lock = true ↔ 0 ≤ waitIx t w ∨ ((0 : Int) < (List.length (heldS t w t.length) : Int) ∧ lock ≤ List.getD (heldS t w t.length) ((List.length (heldS t w t.length) : Int) - 1).toNat 0) := by
  obtain ⟨h1, h2, h3⟩ := held_spec t w t.length
  unfold lateS
  rw [List.any_eq_true]
  constructor
  · rintro ⟨i, hi, h⟩
    have hi := List.mem_range.1 hi
    simp only [Bool.or_eq_true, Bool.and_eq_true, decide_eq_true_eq, Bool.not_eq_true', decide_eq_false_iff_not] at h
    rcases h with h | ⟨h, hm⟩
    · left
      by_cases hw : 0 ≤ waitIx t w
      · exact hw
      · have := AL.Lib.idx_neg (p := fun g : Gt => decide (0 ≤ findS g.2 w)) (l := t) (by unfold waitIx at hw; omega) _ (AL.Lib.getD_mem ([], []) t i hi)
        rw [decide_eq_false_iff_not] at this
        exact absurd h this
    · right
      have hmem := h2 i hi hm
      have hpos := List.length_pos_of_mem hmem
      have := h3 _ hmem
      exact ⟨by omega, by omega⟩
  · rintro (h | ⟨h, hl⟩)
    · have h4 := (AL.Lib.idx_pos (p := fun g : Gt => decide (0 ≤ findS g.2 w)) (l := t) ([], []) h).1
      have := wait_rng t w
      refine ⟨(waitIx t w).toNat, List.mem_range.2 (by omega), ?_⟩
      rw [Bool.or_eq_true]; left; exact h4
    · have hmem := AL.Lib.getD_mem 0 (heldS t w t.length) ((List.length (heldS t w t.length) : Int) - 1).toNat (by omega)
      obtain ⟨i, a, b, c⟩ := h1 _ hmem
      rw [b] at hl
      refine ⟨i, List.mem_range.2 a, ?_⟩
      simp only [Bool.or_eq_true, Bool.and_eq_true, decide_eq_true_eq, Bool.not_eq_true', decide_eq_false_iff_not]
      right; exact ⟨hl, c⟩
theorem late_no {t : Tab} {w lock : Int} (h : ¬ (0 ≤ waitIx t w ∨ ((0 : Int) < (List.length (heldS t w t.length) : Int) ∧ lock ≤ List.getD (heldS t w t.length) ((List.length (heldS t w t.length) : Int) - 1).toNat 0))) : lateS t w lock = false := by
  cases e : lateS t w lock with
  | false => rfl
  | true => exact absurd ((late_iff t w lock).1 e) h

theorem oneI : OneRow Int AL.Fnv.rowI (Value.int .i64) (fun x => InR .i64 x) := ⟨fun h => h, fun h => ⟨rfl, h⟩⟩
def risen (l : List Int) : List Int := l.mergeSort fun x y => decide (x ≤ y)
theorem risen_len (l : List Int) : (risen l).length = l.length := List.length_mergeSort l
theorem risen_mem {l : List Int} {x : Int} : x ∈ risen l ↔ x ∈ l := (List.mergeSort_perm l _).mem_iff
theorem Sort_c (l : List Int) (hb : l.length ≤ 100000) (id : Nat) : Spec Try.prog 40 [TV.c (.own id)] (ofH [(id, AObj.grow 3 1 Int 0 AL.Fnv.rowI l)]) (.tup []) (ofH [(id, AObj.grow 3 1 Int 0 AL.Fnv.rowI (risen l))]) :=
  Spec.inplace ⟨_, Try.func40, by kernel_rfl, by kernel_rfl⟩ oneI (risen_len l) (fun _ => risen_mem.1) (fun b cap w h1 h2 => Try.slices_Sort_int b 0 cap l w h1 h2 (by omega))
    (fun h p cap w => Try.slices_Sort_int_none p cap w) id
theorem compact_len (l : List Int) : (Go.Lib.compact l).length ≤ l.length := by
  unfold Go.Lib.compact Go.Lib.compactUpTo
  rw [List.length_map]
  exact Nat.le_trans (List.length_filter_le _ _) (by simp)
theorem compact_mem {l : List Int} {x : Int} (h : x ∈ Go.Lib.compact l) : x ∈ l := by
  unfold Go.Lib.compact Go.Lib.compactUpTo at h
  obtain ⟨j, hj, rfl⟩ := List.mem_map.1 h
  have hj2 := List.mem_range.1 (List.mem_filter.1 hj).1
  rw [getElem!_pos _ j (by simpa using hj2)]
  simp
theorem Compact_c (l : List Int) (hb : l.length ≤ 100000) (id dd : Nat) (hne : id ≠ dd) : Spec Try.prog 41 [TV.c (.own id)] (ofH [(id, AObj.grow 3 1 Int 0 AL.Fnv.rowI l)]) (vo dd) (ofH [(dd, AObj.grow 3 1 Int 0 AL.Fnv.rowI (Go.Lib.compact l))]) :=
  Spec.shorten (zs := List.replicate (l.length - (Go.Lib.compact l).length) 0) ⟨_, Try.func41, by kernel_rfl, by kernel_rfl⟩ oneI (by have := compact_len l; simp; omega) (fun _ => compact_mem) (fun b cap w h1 h2 => Try.slices_Compact_int b 0 cap l w h1 (by omega) h2)
    (fun h p cap w => Try.slices_Compact_int_empty p cap w) id dd hne
def blockedS (t : Tab) : List Int := AL.Ints.sortS (rowsS t)
theorem compact_risen (l : List Int) : Go.Lib.compact (risen l) = AL.Ints.sortS l := AL.Ints.compact_sort l

theorem rows_step (t : Tab) (k : Nat) (hk : k < t.length) : rowsS (List.take k t) ++ namesS (List.getD t k ([], [])).2 = rowsS (List.take (k + 1) t) := by
  rw [AL.Lib.take_succ ([], []) t k hk]; unfold rowsS; simp
theorem rows_len {n : Nat} {t : Tab} (h : GoodT n t) : ∀ k, k ≤ t.length → (rowsS (List.take k t)).length ≤ k * n := by
  intro k
  induction k with
  | zero => intro _; simp [rowsS]
  | succ k ih =>
    intro hk
    rw [← rows_step t k (by omega), List.length_append]
    have h1 := ih (by omega)
    have h2 := (h.2 _ (AL.Lib.getD_mem ([], []) t k (by omega))).2
    unfold sizeS at h2
    have h3 : (namesS (List.getD t k ([], [])).2).length = (List.getD t k ([], [])).2.length := by unfold namesS; simp
    rw [Nat.add_mul]; omega
theorem free_idx (t : Tab) : (!decide (0 ≤ AL.Lib.idxS (fun g : Gt => !decide ((List.length g.1 : Int) + (List.length g.2 : Int) = 0)) t)) = freeS t := by
  unfold freeS
  rw [Bool.eq_iff_iff, Bool.not_eq_true', decide_eq_false_iff_not, List.all_eq_true]
  constructor
  · intro h g hg
    have := AL.Lib.idx_neg (p := fun g : Gt => !decide ((List.length g.1 : Int) + (List.length g.2 : Int) = 0)) (l := t) (by omega) g hg
    simpa using this
  · intro h hi
    have h1 := (AL.Lib.idx_pos (p := fun g : Gt => !decide ((List.length g.1 : Int) + (List.length g.2 : Int) = 0)) (l := t) ([], []) hi).1
    have h2 := AL.Lib.idx_lt (fun g : Gt => !decide ((List.length g.1 : Int) + (List.length g.2 : Int) = 0)) t
    have h3 := h _ (AL.Lib.getD_mem ([], []) t (AL.Lib.idxS (fun g : Gt => !decide ((List.length g.1 : Int) + (List.length g.2 : Int) = 0)) t).toNat (by omega))
    rw [h3] at h1
    cases h1

def wantsS (m : Int) (l : List Int) : List One := l.map fun s => (2 + s, m)
theorem wants_step (m : Int) (l : List Int) (k : Nat) (hk : k < l.length) : wantsS m (List.take k l) ++ [(2 + List.getD l k 0, m)] = wantsS m (List.take (k + 1) l) := by
  rw [AL.Lib.take_succ 0 l k hk]; unfold wantsS; simp
theorem wants_len (m : Int) (l : List Int) : (wantsS m l).length = l.length := by unfold wantsS; simp
def shardsN (t : Tab) : Int := max 0 ((List.length t : Int) - 4)
def shardT (t : Tab) (p : Bytes) : Int := if t.length = 0 then 0 else 2 + AL.Fnv.shardS p (shardsN t)

theorem new_good {n : Nat} (k : Int) : GoodT n (newS k).1 := by
  unfold newS
  split
  · exact ⟨Nat.zero_le _, fun g h => by simp at h⟩
  · rename_i h
    refine ⟨by rw [List.length_replicate]; omega, fun g hg => ?_⟩
    rw [(List.mem_replicate.1 hg).2]
    exact ⟨wf_nil, Nat.zero_le _⟩

-- the tables of 'awake'
def tA : Tab := (newS 4).1
def tB : Tab := (askT tA 1 0 1).1
def tC : Tab := (askT tB 1 (max 0 ((List.length tA : Int) - 2)) 2).1
def tD : Tab := (askT tC 2 (max 0 ((List.length tA : Int) - 2)) 1).1
def tQ : Tab := quitT 1 (List.length tD) tD
theorem tA_good : GoodT 10 tA := new_good 4
theorem tB_good : GoodT 11 tB := ask_good tA_good
theorem tC_good : GoodT 12 tC := ask_good tB_good
theorem tD_good : GoodT 13 tD := ask_good tC_good
theorem tQ_good : GoodT 13 tQ := quit_good _ tD_good
theorem t_good {n m : Nat} {t : Tab} (h : GoodT n t) (hm : n ≤ m) : GoodT m t := good_mono h hm
end AL.Locks
