/- locks: what its functions compute, in plain Lean. No condition. -/
import Derived.Test.YtbfhmgbgehenoaaGateE
import Derived.Test.YtbfhmgbgehenoaaALe
namespace AL.Locks
open Go AL AL.Gate
set_option linter.unusedVariables false
set_option linter.unusedSimpArgs false

abbrev Tab := List Gt
def rowT (g : Gt) (i : Nat) : SC := match i with | 0 => slO g.1 | _ => slO g.2
abbrev slT (l : List Gt) : SC := .sl 2 Gt ([], []) rowT l
theorem nil_le {n : Nat} : ∀ (j : Nat) (x : Unit) (y : Gt), (List.replicate n ())[j]? = some x → (List.replicate n (([], []) : Gt))[j]? = some y → ∀ i, i < 2 → AC.le (.s (rowNil x i)) (.s (rowT y i)) := by
  intro j x y _ hy i hi
  obtain rfl : y = ([], []) := by
    have := List.mem_of_getElem? hy
    exact (List.mem_replicate.1 this).2
  match i, hi with
  | 0, _ => exact AC.le_nil
  | 1, _ => exact AC.le_nil
def waitIx (t : Tab) (w : Int) : Int := AL.Lib.idxS (fun g => decide (0 ≤ findS g.2 w)) t
def hasS (t : Tab) (k : Int) : Bool := decide (0 ≤ k) && decide (k < (List.length t : Int))
def withS (t : Tab) (k : Int) (g : Gt) : Tab := List.set t k.toNat g
/-- The numbers of the gates that someone holds. -/
def heldS (t : Tab) (w : Int) : Nat → List Int
  | 0 => []
  | k + 1 => if modeS (List.getD t k ([], [])).1 w = 0 then heldS t w k else heldS t w k ++ [(k : Int)]
def lateS (t : Tab) (w lock : Int) : Bool := (List.range t.length).any fun i => decide (0 ≤ findS (List.getD t i ([], [])).2 w) || (decide (lock ≤ (i : Int)) && !decide (modeS (List.getD t i ([], [])).1 w = 0))
def askT (t : Tab) (w lock m : Int) : Tab × Bool × Int :=
  if hasS t lock = false then (t, false, 8) else if w < 0 ∨ (m ≠ 1 ∧ m ≠ 2) then (t, false, 2) else if lateS t w lock = true then (t, false, 9) else
  (withS t lock (askS (List.getD t lock.toNat ([], [])) w m).1, (askS (List.getD t lock.toNat ([], [])) w m).2.1, (askS (List.getD t lock.toNat ([], [])) w m).2.2)
def leaveT (t : Tab) (w lock : Int) : Tab × Int :=
  if hasS t lock = false then (t, 8) else if (leaveS (List.getD t lock.toNat ([], [])) w).2.2 ≠ 0 then (t, (leaveS (List.getD t lock.toNat ([], [])) w).2.2) else
  (withS t lock (leaveS (List.getD t lock.toNat ([], [])) w).1, 0)
/-- Leaving the first k gates, from the last one on. -/
def quitT (w : Int) : Nat → Tab → Tab
  | 0, t => t
  | k + 1, t => quitT w k (leaveT t w (k : Int)).1
def freeS (t : Tab) : Bool := t.all fun g => decide ((List.length g.1 : Int) + (List.length g.2 : Int) = 0)
def rowsS (t : Tab) : List Int := (t.map fun g => namesS g.2).flatten
def newS (n : Int) : Tab × Int := if n < 1 ∨ 8 < n then ([], 2) else (List.replicate (n + 4).toNat ([], []), 0)

-- what the first gates hold and wait for
theorem wait_rng (t : Tab) (w : Int) : -1 ≤ waitIx t w ∧ waitIx t w < t.length := ⟨AL.Lib.idx_ge _ t, AL.Lib.idx_lt _ t⟩
def late1 (t : Tab) (w lock : Int) (i : Nat) : Bool := decide (0 ≤ findS (List.getD t i ([], [])).2 w) || (decide (lock ≤ (i : Int)) && !decide (modeS (List.getD t i ([], [])).1 w = 0))
theorem late_t {t : Tab} {w lock : Int} {i : Nat} (hi : i < t.length) (h : late1 t w lock i = true) : lateS t w lock = true := List.any_eq_true.2 ⟨i, List.mem_range.2 hi, h⟩
theorem late_f {t : Tab} {w lock : Int} (h : ∀ i, i < t.length → late1 t w lock i = false) : lateS t w lock = false := by
  unfold lateS
  rw [List.any_eq_false]
  intro i hi
  have := h i (List.mem_range.1 hi)
  unfold late1 at this
  rw [this]; decide
theorem late_step {t : Tab} {w lock : Int} {k : Nat} (h : ∀ i, i < k → late1 t w lock i = false) (hk : late1 t w lock k = false) : ∀ i, i < k + 1 → late1 t w lock i = false := by
  intro i hi
  by_cases e : i = k
  · rw [e]; exact hk
  · exact h i (by omega)
theorem held_len (t : Tab) (w : Int) : ∀ k, (heldS t w k).length ≤ k := by
  intro k
  induction k with
  | zero => exact Nat.le_refl _
  | succ k ih =>
    rw [heldS]
    split
    · omega
    · rw [List.length_append, List.length_singleton]; omega
theorem held_t (t : Tab) (w : Int) (k : Nat) (h : ¬ modeS (List.getD t k ([], [])).1 w = 0) : heldS t w (k + 1) = heldS t w k ++ [(k : Int)] := by rw [heldS, if_neg h]
theorem held_f (t : Tab) (w : Int) (k : Nat) (h : modeS (List.getD t k ([], [])).1 w = 0) : heldS t w (k + 1) = heldS t w k := by rw [heldS, if_pos h]
theorem has_iff {t : Tab} {k : Int} : hasS t k = true ↔ 0 ≤ k ∧ k < (List.length t : Int) := by
  unfold hasS; rw [Bool.and_eq_true, decide_eq_true_eq, decide_eq_true_eq]
theorem with_len (t : Tab) (k : Int) (g : Gt) : (withS t k g).length = t.length := List.length_set

-- good tables
def GoodT (n : Nat) (t : Tab) : Prop := t.length ≤ 100 ∧ ∀ g ∈ t, Wf g ∧ sizeS g ≤ n
theorem good_at {n : Nat} {t : Tab} (h : GoodT n t) {k : Int} (hk : 0 ≤ k ∧ k < (List.length t : Int)) : Wf (List.getD t k.toNat ([], [])) ∧ sizeS (List.getD t k.toNat ([], [])) ≤ n :=
  h.2 _ (AL.Lib.getD_mem _ _ _ (by omega))
theorem good_with {n : Nat} {t : Tab} {k : Int} {g : Gt} (h : GoodT n t) (hg : Wf g ∧ sizeS g ≤ n) : GoodT n (withS t k g) :=
  ⟨by rw [with_len]; exact h.1, fun x hx => by
    rcases List.mem_or_eq_of_mem_set hx with h1 | h1
    · exact h.2 x h1
    · rw [h1]; exact hg⟩
theorem good_mono {n m : Nat} {t : Tab} (h : GoodT n t) (hnm : n ≤ m) : GoodT m t := ⟨h.1, fun g hg => ⟨(h.2 g hg).1, Nat.le_trans (h.2 g hg).2 hnm⟩⟩
theorem has_no {t : Tab} {k : Int} (h : k < 0 ∨ (List.length t : Int) ≤ k) : hasS t k = false := by
  cases e : hasS t k with
  | false => rfl
  | true => rw [has_iff] at e; omega
theorem ask_1 {t : Tab} {w k m : Int} (h : hasS t k = false) : askT t w k m = (t, false, 8) := by unfold askT; rw [if_pos h]
theorem ask_2 {t : Tab} {w k m : Int} (h : hasS t k = true) (h2 : w < 0 ∨ (m ≠ 1 ∧ m ≠ 2)) : askT t w k m = (t, false, 2) := by unfold askT; rw [if_neg (by rw [h]; decide), if_pos h2]
theorem ask_3 {t : Tab} {w k m : Int} (h : hasS t k = true) (h2 : ¬ (w < 0 ∨ (m ≠ 1 ∧ m ≠ 2))) (h3 : lateS t w k = true) : askT t w k m = (t, false, 9) := by
  unfold askT; rw [if_neg (by rw [h]; decide), if_neg h2, if_pos h3]
theorem ask_4 {t : Tab} {w k m : Int} (h : hasS t k = true) (h2 : ¬ (w < 0 ∨ (m ≠ 1 ∧ m ≠ 2))) (h3 : lateS t w k = false) : askT t w k m = (withS t k (askS (List.getD t k.toNat ([], [])) w m).1, (askS (List.getD t k.toNat ([], [])) w m).2.1, (askS (List.getD t k.toNat ([], [])) w m).2.2) := by
  unfold askT; rw [if_neg (by rw [h]; decide), if_neg h2, if_neg (by rw [h3]; decide)]
theorem leave_1 {t : Tab} {w k : Int} (h : hasS t k = false) : leaveT t w k = (t, 8) := by unfold leaveT; rw [if_pos h]
theorem leave_2 {t : Tab} {w k : Int} (h : hasS t k = true) (h2 : ¬ (leaveS (List.getD t k.toNat ([], [])) w).2.2 = 0) : leaveT t w k = (t, (leaveS (List.getD t k.toNat ([], [])) w).2.2) := by
  unfold leaveT; rw [if_neg (by rw [h]; decide), if_pos h2]
theorem leave_3 {t : Tab} {w k : Int} (h : hasS t k = true) (h2 : (leaveS (List.getD t k.toNat ([], [])) w).2.2 = 0) : leaveT t w k = (withS t k (leaveS (List.getD t k.toNat ([], [])) w).1, 0) := by
  unfold leaveT; rw [if_neg (by rw [h]; decide), if_neg (fun q => q h2)]
theorem leave_good {n : Nat} {t : Tab} {w k : Int} (h : GoodT n t) : GoodT n (leaveT t w k).1 := by
  cases e : hasS t k with
  | false => rw [leave_1 e]; exact h
  | true =>
    by_cases h2 : (leaveS (List.getD t k.toNat ([], [])) w).2.2 = 0
    · rw [leave_3 e h2]
      have := good_at h (has_iff.1 e)
      exact good_with h ⟨leave_wf this.1, sz_leave this.2⟩
    · rw [leave_2 e h2]; exact h
theorem leave_len (t : Tab) (w k : Int) : (leaveT t w k).1.length = t.length := by
  unfold leaveT
  split
  · rfl
  · split
    · rfl
    · exact with_len _ _ _
theorem leave_id {t : Tab} {w k : Int} (h : ¬ (leaveT t w k).2 = 0) : (leaveT t w k).1 = t := by
  unfold leaveT at *
  split at h
  · rename_i q; rw [if_pos q]
  · rename_i q
    rw [if_neg q]
    split at h
    · rename_i q2; rw [if_pos q2]
    · exact absurd rfl h
theorem ask_good {n : Nat} {t : Tab} {w k m : Int} (h : GoodT n t) : GoodT (n + 1) (askT t w k m).1 := by
  have h1 := good_mono h (Nat.le_succ n)
  unfold askT
  split
  · exact h1
  · rename_i hh
    split
    · exact h1
    · split
      · exact h1
      · have := good_at h (has_iff.1 (by simpa using hh))
        exact good_with h1 ⟨ask_wf this.1, sz_ask this.2⟩
theorem ask_len (t : Tab) (w k m : Int) : (askT t w k m).1.length = t.length := by
  unfold askT
  split
  · rfl
  · split
    · rfl
    · split
      · rfl
      · exact with_len _ _ _

theorem quit_step {w : Int} {k : Nat} {t : Tab} (h : 0 < k) : quitT w k t = quitT w (k - 1) (leaveT t w ((k : Int) - 1)).1 := by
  cases k with
  | zero => omega
  | succ k => rw [quitT, show ((k + 1 : Nat) : Int) - 1 = (k : Int) by omega]; rfl
theorem quit_good {n : Nat} {w : Int} : ∀ (k : Nat) {t : Tab}, GoodT n t → GoodT n (quitT w k t)
  | 0, _, h => h
  | k + 1, _, h => quit_good k (leave_good h)
theorem quit_len (w : Int) : ∀ (k : Nat) (t : Tab), (quitT w k t).length = t.length
  | 0, _ => rfl
  | k + 1, t => by rw [quitT, quit_len w k, leave_len]
end AL.Locks
